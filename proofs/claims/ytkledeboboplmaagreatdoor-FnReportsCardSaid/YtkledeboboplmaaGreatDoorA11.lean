/- DERIVED by an AI agent. -/
import Derived.Test.YtkledeboboplmaaGreatDoorA10
namespace Go.Abs
theorem ai {a b:Prop} (h:a) (k:b):a/\b:=⟨h,k⟩
theorem gp0:type_of% (ai @zLP <| ai @zLQ <| ai @zLR <| ai @zLS <| ai @zLT <| ai @zLU <| ai @zLV <| ai @zLW <| ai @zvY <| ai @zjE <| ai @zjF <| ai @zAJ <| ai @zvZ <| ai @zro <| ai @zv0 <| @zv1):=ai @zLP <| ai @zLQ <| ai @zLR <| ai @zLS <| ai @zLT <| ai @zLU <| ai @zLV <| ai @zLW <| ai @zvY <| ai @zjE <| ai @zjF <| ai @zAJ <| ai @zvZ <| ai @zro <| ai @zv0 <| @zv1
theorem gp1:type_of% (ai @zAK <| ai @zrp <| ai @zv2 <| ai @zAL <| ai @zv3 <| ai @zv4 <| ai @zAM <| ai @zh3 <| ai @zlm <| ai @zv5 <| ai @zrq <| ai @zv6 <| ai @zrt <| ai @zrw <| ai @zn6 <| @zn7):=ai @zAK <| ai @zrp <| ai @zv2 <| ai @zAL <| ai @zv3 <| ai @zv4 <| ai @zAM <| ai @zh3 <| ai @zlm <| ai @zv5 <| ai @zrq <| ai @zv6 <| ai @zrt <| ai @zrw <| ai @zn6 <| @zn7
theorem gp2:type_of% (ai @zlo <| ai @zwo <| ai @zg4 <| ai @zg5 <| ai @zfZ <| ai @zeG <| ai @zg6 <| ai @zg7 <| ai @zwp <| ai @zA2 <| ai @zG3 <| ai @zls <| ai @zwq <| ai @zh5 <| ai @zlt <| @zh7):=ai @zlo <| ai @zwo <| ai @zg4 <| ai @zg5 <| ai @zfZ <| ai @zeG <| ai @zg6 <| ai @zg7 <| ai @zwp <| ai @zA2 <| ai @zG3 <| ai @zls <| ai @zwq <| ai @zh5 <| ai @zlt <| @zh7
theorem gp3:type_of% (ai @zrF <| ai @zlv <| ai @zjG <| ai @zjH <| ai @zA3 <| ai @zA4 <| ai @zA5 <| ai @zog <| ai @zrI <| ai @zg8 <| ai @zrJ <| ai @zov <| ai @zop <| ai @zor <| ai @zoq <| @zrK):=ai @zrF <| ai @zlv <| ai @zjG <| ai @zjH <| ai @zA3 <| ai @zA4 <| ai @zA5 <| ai @zog <| ai @zrI <| ai @zg8 <| ai @zrJ <| ai @zov <| ai @zop <| ai @zor <| ai @zoq <| @zrK
theorem gp4:type_of% (ai @zA7 <| ai @zg9 <| ai @zrN <| ai @zwy <| ai @zrQ <| ai @zxp <| ai @zsI <| ai @zxq <| ai @zoX <| ai @zlz <| ai @zlA <| ai @zwA <| ai @zon <| ai @zwB <| ai @zG7 <| @zlB):=ai @zA7 <| ai @zg9 <| ai @zrN <| ai @zwy <| ai @zrQ <| ai @zxp <| ai @zsI <| ai @zxq <| ai @zoX <| ai @zlz <| ai @zlA <| ai @zwA <| ai @zon <| ai @zwB <| ai @zG7 <| @zlB
theorem gp5:type_of% (ai @zwC <| ai @zid <| ai @zrX <| ai @zif <| ai @zrY <| ai @zlD <| ai @zjI <| ai @zjJ <| ai @zrZ <| ai @zBd <| ai @zr7 <| ai @zr8 <| ai @zwJ <| ai @zr9 <| ai @zlJ <| @zlK):=ai @zwC <| ai @zid <| ai @zrX <| ai @zif <| ai @zrY <| ai @zlD <| ai @zjI <| ai @zjJ <| ai @zrZ <| ai @zBd <| ai @zr7 <| ai @zr8 <| ai @zwJ <| ai @zr9 <| ai @zlJ <| @zlK
theorem gp6:type_of% (ai @zjK <| ai @zha <| ai @zrU <| ai @zxI <| ai @zsV <| ai @zxJ <| ai @zsX <| ai @zsW <| ai @zxK <| ai @zxG <| ai @zsT <| ai @zxL <| ai @zs0 <| ai @zs1 <| ai @zo2 <| @zCn):=ai @zjK <| ai @zha <| ai @zrU <| ai @zxI <| ai @zsV <| ai @zxJ <| ai @zsX <| ai @zsW <| ai @zxK <| ai @zxG <| ai @zsT <| ai @zxL <| ai @zs0 <| ai @zs1 <| ai @zo2 <| @zCn
theorem gp7:type_of% (ai @zxH <| ai @zsU <| ai @zBj <| ai @zsa <| ai @zBk <| ai @zHc <| ai @zL4 <| ai @zoy <| ai @zBl <| ai @zjL <| ai @zwK <| ai @zjM <| ai @zwL <| ai @zoz <| ai @zlL <| @zlM):=ai @zxH <| ai @zsU <| ai @zBj <| ai @zsa <| ai @zBk <| ai @zHc <| ai @zL4 <| ai @zoy <| ai @zBl <| ai @zjL <| ai @zwK <| ai @zjM <| ai @zwL <| ai @zoz <| ai @zlL <| @zlM
theorem gp8:type_of% (ai @zHd <| ai @zHe <| ai @zHf <| ai @zsb <| ai @zsc <| ai @zsf <| ai @zwM <| ai @zBm <| ai @zHg <| ai @zse <| ai @zlN <| ai @zsg <| ai @zwN <| ai @zBn <| ai @zjN <| @zsh):=ai @zHd <| ai @zHe <| ai @zHf <| ai @zsb <| ai @zsc <| ai @zsf <| ai @zwM <| ai @zBm <| ai @zHg <| ai @zse <| ai @zlN <| ai @zsg <| ai @zwN <| ai @zBn <| ai @zjN <| @zsh
theorem gp9:type_of% (ai @zwQ <| ai @zHh <| ai @zig <| ai @zwR <| ai @zBo <| ai @zE4 <| ai @zof <| ai @zlu <| ai @zh6 <| ai @zoo <| ai @zlC <| @zie):=ai @zwQ <| ai @zHh <| ai @zig <| ai @zwR <| ai @zBo <| ai @zE4 <| ai @zof <| ai @zlu <| ai @zh6 <| ai @zoo <| ai @zlC <| @zie
theorem gp:type_of% (ai @gp0 <| ai @gp1 <| ai @gp2 <| ai @gp3 <| ai @gp4 <| ai @gp5 <| ai @gp6 <| ai @gp7 <| ai @gp8 <| @gp9):=ai @gp0 <| ai @gp1 <| ai @gp2 <| ai @gp3 <| ai @gp4 <| ai @gp5 <| ai @gp6 <| ai @gp7 <| ai @gp8 <| @gp9
theorem gq0:type_of% (ai @zLO <| ai @zGR <| ai @zAF <| ai @zAG <| ai @zvW <| ai @zGS <| ai @zAH <| ai @zAI <| ai @zvX <| ai @zau <| ai @zaG <| ai @zkA <| ai @zec <| ai @zvS <| ai @zaA <| @zap):=ai @zLO <| ai @zGR <| ai @zAF <| ai @zAG <| ai @zvW <| ai @zGS <| ai @zAH <| ai @zAI <| ai @zvX <| ai @zau <| ai @zaG <| ai @zkA <| ai @zec <| ai @zvS <| ai @zaA <| @zap
theorem gq1:type_of% (ai @zhY <| ai @zhZ <| ai @zpY <| ai @zvT <| ai @zAE <| ai @zvU <| ai @zpZ <| ai @zh0 <| ai @zvV <| ai @zGQ <| ai @zp0 <| ai @zp1 <| ai @zh1 <| ai @zh2 <| ai @zkB <| @zkC):=ai @zhY <| ai @zhZ <| ai @zpY <| ai @zvT <| ai @zAE <| ai @zvU <| ai @zpZ <| ai @zh0 <| ai @zvV <| ai @zGQ <| ai @zp0 <| ai @zp1 <| ai @zh1 <| ai @zh2 <| ai @zkB <| @zkC
theorem gq2:type_of% (ai @zkD <| ai @zn5 <| ai @zGT <| ai @zGU <| ai @zGV <| ai @zGW <| ai @zAW <| ai @zru <| ai @zwa <| ai @zrv <| ai @zGZ <| ai @getElem?_zero <| ai @getElem?_succ <| ai @zrx <| ai @zBz <| @zBA):=ai @zkD <| ai @zn5 <| ai @zGT <| ai @zGU <| ai @zGV <| ai @zGW <| ai @zAW <| ai @zru <| ai @zwa <| ai @zrv <| ai @zGZ <| ai @getElem?_zero <| ai @getElem?_succ <| ai @zrx <| ai @zBz <| @zBA
theorem gq3:type_of% (ai @zBB <| ai @zBC <| ai @zBD <| ai @zBE <| ai @zHi <| ai @zBF <| ai @zoC <| ai @zBG <| ai @zBH <| ai @zBI <| ai @zBJ <| ai @zBK <| ai @zBL <| ai @zBM <| ai @zBN <| @zlO):=ai @zBB <| ai @zBC <| ai @zBD <| ai @zBE <| ai @zHi <| ai @zBF <| ai @zoC <| ai @zBG <| ai @zBH <| ai @zBI <| ai @zBJ <| ai @zBK <| ai @zBL <| ai @zBM <| ai @zBN <| @zlO
theorem gq4:type_of% (ai @zlP <| ai @zlQ <| ai @zjO <| ai @zjP <| ai @zHj <| ai @zHk <| ai @zwV <| ai @zBO <| ai @zoD <| ai @zoF <| ai @zoE <| ai @zHl <| ai @zBP <| ai @zHm <| ai @zBQ <| @zoG):=ai @zlP <| ai @zlQ <| ai @zjO <| ai @zjP <| ai @zHj <| ai @zHk <| ai @zwV <| ai @zBO <| ai @zoD <| ai @zoF <| ai @zoE <| ai @zHl <| ai @zBP <| ai @zHm <| ai @zBQ <| @zoG
theorem gq5:type_of% (ai @zoH <| ai @zoI <| ai @zL6 <| ai @zL7 <| ai @zHn <| ai @zBU <| ai @zHo <| ai @zsm <| ai @zsl <| ai @zL8 <| ai @zL9 <| ai @zMa <| ai @zMb <| ai @zHq <| ai @zMc <| @zMd):=ai @zoH <| ai @zoI <| ai @zL6 <| ai @zL7 <| ai @zHn <| ai @zBU <| ai @zHo <| ai @zsm <| ai @zsl <| ai @zL8 <| ai @zL9 <| ai @zMa <| ai @zMb <| ai @zHq <| ai @zMc <| @zMd
theorem gq6:type_of% (ai @zMe <| ai @zMf <| ai @zBV <| ai @List.drop_succ_cons.{0} <| ai @List.drop_zero.{0} <| ai @List.take_succ_cons.{0} <| ai @List.take_zero.{0} <| ai @zyE <| ai @zHp <| ai @zwX <| ai @zwZ <| ai @zf2 <| ai @zih <| ai @zsn <| ai @zso <| @zw0):=ai @zMe <| ai @zMf <| ai @zBV <| ai @List.drop_succ_cons.{0} <| ai @List.drop_zero.{0} <| ai @List.take_succ_cons.{0} <| ai @List.take_zero.{0} <| ai @zyE <| ai @zHp <| ai @zwX <| ai @zwZ <| ai @zf2 <| ai @zih <| ai @zsn <| ai @zso <| @zw0
theorem gq7:type_of% (ai @zw1 <| ai @zlS <| ai @zsp <| ai @zoK <| ai @zsq <| ai @zoL <| ai @zw2 <| ai @zsr <| ai @zw3 <| ai @zss <| ai @zw4 <| ai @zHr <| ai @zw5 <| ai @zw6 <| ai @zAx <| @zAw):=ai @zw1 <| ai @zlS <| ai @zsp <| ai @zoK <| ai @zsq <| ai @zoL <| ai @zw2 <| ai @zsr <| ai @zw3 <| ai @zss <| ai @zw4 <| ai @zHr <| ai @zw5 <| ai @zw6 <| ai @zAx <| @zAw
theorem gq8:type_of% (ai @zAz <| ai @zAy <| ai @zvQ <| ai @zvP <| ai @zoM <| ai @zoN <| ai @zB0 <| ai @zp7 <| ai @zxd <| ai @zsu <| ai @zsv <| ai @zoP <| ai @zoQ <| ai @zsw <| ai @zHt <| @zB1):=ai @zAz <| ai @zAy <| ai @zvQ <| ai @zvP <| ai @zoM <| ai @zoN <| ai @zB0 <| ai @zp7 <| ai @zxd <| ai @zsu <| ai @zsv <| ai @zoP <| ai @zoQ <| ai @zsw <| ai @zHt <| @zB1
theorem gq9:type_of% (ai @zB2 <| ai @zxe <| ai @zlU <| ai @zlV <| ai @zxg <| ai @zsz <| ai @zsy <| ai @zoR <| ai @zoS <| ai @zoT <| ai @zoU <| ai @zB3 <| ai @zxf <| ai @zsx <| ai @zHu <| @zB4):=ai @zB2 <| ai @zxe <| ai @zlU <| ai @zlV <| ai @zxg <| ai @zsz <| ai @zsy <| ai @zoR <| ai @zoS <| ai @zoT <| ai @zoU <| ai @zB3 <| ai @zxf <| ai @zsx <| ai @zHu <| @zB4
theorem zOR:type_of% (ai @zsA <| ai @zxh <| ai @zp8 <| ai @zxi <| ai @List.length_cons.{0} <| ai @List.length_nil.{0} <| ai @List.not_mem_nil.{0} <| ai @List.mem_cons.{0} <| ai @or_false <| ai @zsB <| ai @zxj <| ai @zoi <| ai @zxk <| ai @zxl <| ai @zoV <| @zoW):=ai @zsA <| ai @zxh <| ai @zp8 <| ai @zxi <| ai @List.length_cons.{0} <| ai @List.length_nil.{0} <| ai @List.not_mem_nil.{0} <| ai @List.mem_cons.{0} <| ai @or_false <| ai @zsB <| ai @zxj <| ai @zoi <| ai @zxk <| ai @zxl <| ai @zoV <| @zoW
theorem zOS:type_of% (ai @zB6 <| ai @zB7 <| ai @zB8 <| ai @zxm <| ai @zMi <| ai @zCe <| ai @zi9 <| ai @zed <| ai @zkJ <| ai @zsL <| ai @zsM <| ai @zsN <| ai @zsO <| ai @zsP <| ai @imm_ag <| @imm_tup):=ai @zB6 <| ai @zB7 <| ai @zB8 <| ai @zxm <| ai @zMi <| ai @zCe <| ai @zi9 <| ai @zed <| ai @zkJ <| ai @zsL <| ai @zsM <| ai @zsN <| ai @zsO <| ai @zsP <| ai @imm_ag <| @imm_tup
theorem zOT:type_of% (ai @zCf <| ai @zxw <| ai @zCg <| ai @zxx <| ai @zsQ <| ai @zHv <| ai @zHw <| ai @zo0 <| ai @zxy <| ai @zxz <| ai @zHx <| ai @zHy <| ai @zxA <| ai @zsR <| ai @zlY <| @zxB):=ai @zCf <| ai @zxw <| ai @zCg <| ai @zxx <| ai @zsQ <| ai @zHv <| ai @zHw <| ai @zo0 <| ai @zxy <| ai @zxz <| ai @zHx <| ai @zHy <| ai @zxA <| ai @zsR <| ai @zlY <| @zxB
theorem zOU:type_of% (ai @zCh <| ai @zCi <| ai @zxD <| ai @zxE <| ai @zl3 <| ai @zl2 <| ai @zl4 <| ai @zrG <| ai @zoh <| ai @zA8 <| ai @zww <| ai @zG4 <| ai @zwr <| ai @zwt <| ai @zBa <| @zrP):=ai @zCh <| ai @zCi <| ai @zxD <| ai @zxE <| ai @zl3 <| ai @zl2 <| ai @zl4 <| ai @zrG <| ai @zoh <| ai @zA8 <| ai @zww <| ai @zG4 <| ai @zwr <| ai @zwt <| ai @zBa <| @zrP
theorem zOV:type_of% (ai @zrO <| ai @zoe <| ai @zll <| ai @zri <| ai @zcu <| ai @zrj <| ai @zi5 <| ai @zrk <| ai @zAu <| ai @zpW <| ai @zrm <| ai @zpX <| ai @zn3 <| ai @zrl <| ai @zAv <| @zGH):=ai @zrO <| ai @zoe <| ai @zll <| ai @zri <| ai @zcu <| ai @zrj <| ai @zi5 <| ai @zrk <| ai @zAu <| ai @zpW <| ai @zrm <| ai @zpX <| ai @zn3 <| ai @zrl <| ai @zAv <| @zGH
theorem zOW:type_of% (ai @zGI <| ai @zGJ <| ai @zGK <| ai @zGL <| ai @zGM <| ai @zAA <| ai @zGN <| ai @zGG <| ai @zGO <| ai @zAB <| ai @zdq <| ai @zfY <| ai @zAD <| ai @zvR <| ai @zn4 <| @zrn):=ai @zGI <| ai @zGJ <| ai @zGK <| ai @zGL <| ai @zGM <| ai @zAA <| ai @zGN <| ai @zGG <| ai @zGO <| ai @zAB <| ai @zdq <| ai @zfY <| ai @zAD <| ai @zvR <| ai @zn4 <| @zrn
theorem zOX:type_of% (ai @List.map_nil.{0,0} <| ai @List.map_cons.{0,0} <| ai @List.append_nil.{0} <| ai @List.nil_append.{0} <| ai @List.cons_append.{0} <| ai @List.getElem?_cons_zero.{0} <| ai @List.getElem?_cons_succ.{0} <| ai @ne_eq.{1} <| ai @not_false_eq_true <| ai @not_true_eq_false <| ai @true_and <| ai @and_true <| ai @false_and <| ai @and_false <| ai @and_self <| @true_implies):=ai @List.map_nil.{0,0} <| ai @List.map_cons.{0,0} <| ai @List.append_nil.{0} <| ai @List.nil_append.{0} <| ai @List.cons_append.{0} <| ai @List.getElem?_cons_zero.{0} <| ai @List.getElem?_cons_succ.{0} <| ai @ne_eq.{1} <| ai @not_false_eq_true <| ai @not_true_eq_false <| ai @true_and <| ai @and_true <| ai @false_and <| ai @and_false <| ai @and_self <| @true_implies
theorem zOY:type_of% (ai @Bool.not_true <| ai @Bool.not_false <| ai @eq_self.{1} <| ai @Bool.true_eq_false <| ai @Bool.false_eq_true <| ai @false_implies <| ai @implies_true.{0} <| ai @implies_true.{1} <| ai @zCd <| ai @Int.le_refl <| ai @Nat.le_refl <| ai @Int.toNat_natCast <| ai @Int.natCast_nonneg <| ai @Int.ofNat_lt <| ai @Int.ofNat_le <| @PV.v.injEq):=ai @Bool.not_true <| ai @Bool.not_false <| ai @eq_self.{1} <| ai @Bool.true_eq_false <| ai @Bool.false_eq_true <| ai @false_implies <| ai @implies_true.{0} <| ai @implies_true.{1} <| ai @zCd <| ai @Int.le_refl <| ai @Nat.le_refl <| ai @Int.toNat_natCast <| ai @Int.natCast_nonneg <| ai @Int.ofNat_lt <| ai @Int.ofNat_le <| @PV.v.injEq
theorem zOZ:type_of% (ai @Value.bool.injEq <| ai @Value.int.injEq <| ai @Value.string.injEq <| ai @List.nodup_nil.{0} <| ai @zsF <| ai @zsG <| ai @beq_self_eq_true.{0} <| ai @decide_eq_true_eq <| ai @decide_eq_false_iff_not <| ai @zwz <| ai @zrR <| ai @zly <| ai @zol <| ai @zlx <| ai @zrS <| @zom):=ai @Value.bool.injEq <| ai @Value.int.injEq <| ai @Value.string.injEq <| ai @List.nodup_nil.{0} <| ai @zsF <| ai @zsG <| ai @beq_self_eq_true.{0} <| ai @decide_eq_true_eq <| ai @decide_eq_false_iff_not <| ai @zwz <| ai @zrR <| ai @zly <| ai @zol <| ai @zlx <| ai @zrS <| @zom
theorem zO0:type_of% (ai @zrT <| ai @zG6 <| ai @zBc <| ai @zrV <| ai @zrW <| ai @zwu <| ai @zrH <| ai @zkL <| ai @zkM <| ai @zxF <| ai @zFb <| ai @zFc <| ai @zCk <| ai @zCl <| ai @zqc <| @zqd):=ai @zrT <| ai @zG6 <| ai @zBc <| ai @zrV <| ai @zrW <| ai @zwu <| ai @zrH <| ai @zkL <| ai @zkM <| ai @zxF <| ai @zFb <| ai @zFc <| ai @zCk <| ai @zCl <| ai @zqc <| @zqd
theorem zO1:type_of% (ai @zxr <| ai @zxs <| ai @zsJ <| ai @zxt <| ai @zxu <| ai @zxv <| ai @zoZ <| ai @zoY <| ai @zsK <| ai @zrL <| ai @zoj <| ai @zrM <| ai @zok <| ai @if_true.{1} <| ai @if_false.{1} <| @Nat.zero_le):=ai @zxr <| ai @zxs <| ai @zsJ <| ai @zxt <| ai @zxu <| ai @zxv <| ai @zoZ <| ai @zoY <| ai @zsK <| ai @zrL <| ai @zoj <| ai @zrM <| ai @zok <| ai @if_true.{1} <| ai @if_false.{1} <| @Nat.zero_le
theorem zO2:type_of% (ai @Bool.true_and <| ai @Bool.and_true <| ai @Bool.and_self <| ai @zp2 <| ai @zp3 <| ai @zp4 <| ai @zkE <| ai @zwx <| ai @zkF <| ai @zkG <| ai @zkH <| ai @zkI <| ai @zh8 <| ai @zh9 <| ai @zia <| @zib):=ai @Bool.true_and <| ai @Bool.and_true <| ai @Bool.and_self <| ai @zp2 <| ai @zp3 <| ai @zp4 <| ai @zkE <| ai @zwx <| ai @zkF <| ai @zkG <| ai @zkH <| ai @zkI <| ai @zh8 <| ai @zh9 <| ai @zia <| @zib
theorem zO3:type_of% (ai @zrr <| ai @zLX <| ai @zLY <| ai @zwb <| ai @zG0 <| ai @zAX <| ai @zry <| ai @zwc <| ai @zwd <| ai @zrz <| ai @zwe <| ai @zwf <| ai @zAY <| ai @zwg <| ai @zG1 <| @zAZ):=ai @zrr <| ai @zLX <| ai @zLY <| ai @zwb <| ai @zG0 <| ai @zAX <| ai @zry <| ai @zwc <| ai @zwd <| ai @zrz <| ai @zwe <| ai @zwf <| ai @zAY <| ai @zwg <| ai @zG1 <| @zAZ
theorem zO4:type_of% (ai @zrA <| ai @zwh <| ai @zwi <| ai @zwj <| ai @zwk <| ai @zrB <| ai @zG2 <| ai @zA0 <| ai @zrC <| ai @zrD <| ai @zwl <| ai @zn8 <| ai @zn9 <| ai @zoa <| ai @zA1 <| @zwm):=ai @zrA <| ai @zwh <| ai @zwi <| ai @zwj <| ai @zwk <| ai @zrB <| ai @zG2 <| ai @zA0 <| ai @zrC <| ai @zrD <| ai @zwl <| ai @zn8 <| ai @zn9 <| ai @zoa <| ai @zA1 <| @zwm
theorem zO5:type_of% (ai @zwn <| ai @zob <| ai @zoc <| ai @zod <| ai @zGX <| ai @zAO <| ai @zAP <| ai @zv7 <| ai @zv8 <| ai @zrs <| ai @zAQ <| ai @zv9 <| ai @zAR <| ai @zGY <| ai @zAS <| @zAT):=ai @zwn <| ai @zob <| ai @zoc <| ai @zod <| ai @zGX <| ai @zAO <| ai @zAP <| ai @zv7 <| ai @zv8 <| ai @zrs <| ai @zAQ <| ai @zv9 <| ai @zAR <| ai @zGY <| ai @zAS <| @zAT
theorem zO6:type_of% (ai @zAU <| ai @zAV <| ai @Bool.or_false <| ai @Bool.false_or <| ai @Bool.or_self <| ai @Bool.or_true <| ai @Bool.true_or <| ai @Bool.false_and <| ai @Bool.and_false <| ai @zw7 <| ai @zBW <| ai @zw8 <| ai @zw9 <| ai @zxa <| ai @zBX <| @zoO):=ai @zAU <| ai @zAV <| ai @Bool.or_false <| ai @Bool.false_or <| ai @Bool.or_self <| ai @Bool.or_true <| ai @Bool.true_or <| ai @Bool.false_and <| ai @Bool.and_false <| ai @zw7 <| ai @zBW <| ai @zw8 <| ai @zw9 <| ai @zxa <| ai @zBX <| @zoO
theorem zO7:type_of% (ai @zBY <| ai @zHs <| ai @zxc <| ai @zlT <| ai @zst <| ai @zsC <| ai @zsD <| ai @zsE <| ai @zxn <| ai @zB9 <| ai @zCa <| ai @zCb <| ai @zCc <| ai @zxo <| ai @zsS <| @zxC):=ai @zBY <| ai @zHs <| ai @zxc <| ai @zlT <| ai @zst <| ai @zsC <| ai @zsD <| ai @zsE <| ai @zxn <| ai @zB9 <| ai @zCa <| ai @zCb <| ai @zCc <| ai @zxo <| ai @zsS <| @zxC
theorem zO8:type_of% (ai @zl0 <| ai @zl1 <| ai @zG9 <| ai @zBe <| ai @zBf <| ai @zr0 <| ai @zwD <| ai @zwF <| ai @zot <| ai @zos <| ai @zou <| ai @zlF <| ai @zlE <| ai @zwG <| ai @zBg <| @zow):=ai @zl0 <| ai @zl1 <| ai @zG9 <| ai @zBe <| ai @zBf <| ai @zr0 <| ai @zwD <| ai @zwF <| ai @zot <| ai @zos <| ai @zou <| ai @zlF <| ai @zlE <| ai @zwG <| ai @zBg <| @zow
theorem zO9:type_of% (ai @zwH <| ai @zr1 <| ai @zr2 <| ai @zHb <| ai @zBi <| ai @zwI <| ai @zlG <| ai @zlH <| ai @zlI <| ai @zr3 <| ai @zr5 <| ai @zr6 <| ai @zox <| ai @zl6 <| ai @zNa <| @zFd):=ai @zwH <| ai @zr1 <| ai @zr2 <| ai @zHb <| ai @zBi <| ai @zwI <| ai @zlG <| ai @zlH <| ai @zlI <| ai @zr3 <| ai @zr5 <| ai @zr6 <| ai @zox <| ai @zl6 <| ai @zNa <| @zFd
theorem zPa:type_of% (ai @zaq <| ai @zij <| ai @zgA <| ai @zik <| ai @zsY <| ai @zo1 <| ai @zCm <| ai @zsZ <| ai @zkN <| ai @zkO <| ai @zqe <| ai @ze2 <| ai @zf4 <| ai @zdS <| ai @zf5 <| @zeJ):=ai @zaq <| ai @zij <| ai @zgA <| ai @zik <| ai @zsY <| ai @zo1 <| ai @zCm <| ai @zsZ <| ai @zkN <| ai @zkO <| ai @zqe <| ai @ze2 <| ai @zf4 <| ai @zdS <| ai @zf5 <| @zeJ
theorem zPb:type_of% (ai @List.length_set.{0} <| ai @List.length_range <| ai @zil <| ai @zim <| ai @zlr <| ai @zrE <| ai @zl8 <| ai @zHz <| ai @zqk <| ai @zql <| ai @zhr <| ai @zdx <| ai @zBp <| ai @zBq <| ai @zwS <| @zwT):=ai @List.length_set.{0} <| ai @List.length_range <| ai @zil <| ai @zim <| ai @zlr <| ai @zrE <| ai @zl8 <| ai @zHz <| ai @zqk <| ai @zql <| ai @zhr <| ai @zdx <| ai @zBp <| ai @zBq <| ai @zwS <| @zwT
theorem zPc:type_of% (ai @zBr <| ai @zBs <| ai @zBt <| ai @zBu <| ai @zoA <| ai @zoB <| ai @zBv <| ai @zBw <| ai @zsi <| ai @zsj <| ai @zBx <| ai @zBy <| ai @zwU <| ai @zwW <| ai @zoJ <| @zBS):=ai @zBr <| ai @zBs <| ai @zBt <| ai @zBu <| ai @zoA <| ai @zoB <| ai @zBv <| ai @zBw <| ai @zsi <| ai @zsj <| ai @zBx <| ai @zBy <| ai @zwU <| ai @zwW <| ai @zoJ <| @zBS
theorem zPd:type_of% (@zsk):=@zsk
theorem gq:type_of% (ai @gq0 <| ai @gq1 <| ai @gq2 <| ai @gq3 <| ai @gq4 <| ai @gq5 <| ai @gq6 <| ai @gq7 <| ai @gq8 <| ai @gq9 <| ai @zOR <| ai @zOS <| ai @zOT <| ai @zOU <| ai @zOV <| ai @zOW <| ai @zOX <| ai @zOY <| ai @zOZ <| ai @zO0 <| ai @zO1 <| ai @zO2 <| ai @zO3 <| ai @zO4 <| ai @zO5 <| ai @zO6 <| ai @zO7 <| ai @zO8 <| ai @zO9 <| ai @zPa <| ai @zPb <| ai @zPc <| @zPd):=ai @gq0 <| ai @gq1 <| ai @gq2 <| ai @gq3 <| ai @gq4 <| ai @gq5 <| ai @gq6 <| ai @gq7 <| ai @gq8 <| ai @gq9 <| ai @zOR <| ai @zOS <| ai @zOT <| ai @zOU <| ai @zOV <| ai @zOW <| ai @zOX <| ai @zOY <| ai @zOZ <| ai @zO0 <| ai @zO1 <| ai @zO2 <| ai @zO3 <| ai @zO4 <| ai @zO5 <| ai @zO6 <| ai @zO7 <| ai @zO8 <| ai @zO9 <| ai @zPa <| ai @zPb <| ai @zPc <| @zPd
theorem gr0:type_of% (ai @zau <| ai @zaG <| ai @zkA <| ai @zec <| ai @zvS <| ai @zaA <| ai @zap <| ai @zhY <| ai @zhZ <| ai @zpY <| ai @zkC <| ai @zkD <| ai @zed <| ai @zkJ <| ai @zp0 <| @zp1):=ai @zau <| ai @zaG <| ai @zkA <| ai @zec <| ai @zvS <| ai @zaA <| ai @zap <| ai @zhY <| ai @zhZ <| ai @zpY <| ai @zkC <| ai @zkD <| ai @zed <| ai @zkJ <| ai @zp0 <| @zp1
theorem gr1:type_of% (ai @zh1 <| ai @zh2 <| ai @zkB <| ai @zvT <| ai @zvU <| ai @zpZ <| ai @zh0 <| ai @ne_eq.{1} <| ai @not_false_eq_true <| ai @not_true_eq_false <| ai @List.mem_cons.{0} <| ai @List.not_mem_nil.{0} <| ai @or_false <| ai @if_true.{1} <| ai @if_false.{1} <| @zkL):=ai @zh1 <| ai @zh2 <| ai @zkB <| ai @zvT <| ai @zvU <| ai @zpZ <| ai @zh0 <| ai @ne_eq.{1} <| ai @not_false_eq_true <| ai @not_true_eq_false <| ai @List.mem_cons.{0} <| ai @List.not_mem_nil.{0} <| ai @or_false <| ai @if_true.{1} <| ai @if_false.{1} <| @zkL
theorem gr2:type_of% (ai @zkM <| ai @zxF <| ai @zFb <| ai @zFc <| ai @zqc <| ai @zqd <| ai @List.nil_append.{0} <| ai @List.cons_append.{0} <| ai @List.append_nil.{0} <| ai @zp2 <| ai @zp3 <| ai @zp4 <| ai @zkE <| ai @zwx <| ai @zkF <| @zkG):=ai @zkM <| ai @zxF <| ai @zFb <| ai @zFc <| ai @zqc <| ai @zqd <| ai @List.nil_append.{0} <| ai @List.cons_append.{0} <| ai @List.append_nil.{0} <| ai @zp2 <| ai @zp3 <| ai @zp4 <| ai @zkE <| ai @zwx <| ai @zkF <| @zkG
theorem gr3:type_of% (ai @zkH <| ai @zkI <| ai @zh8 <| ai @zh9 <| ai @zia <| ai @zib <| ai @zNa <| ai @zFd <| ai @zaq <| ai @zij <| ai @zgA <| ai @zik <| ai @zkN <| ai @zkO <| ai @zqe <| @ze2):=ai @zkH <| ai @zkI <| ai @zh8 <| ai @zh9 <| ai @zia <| ai @zib <| ai @zNa <| ai @zFd <| ai @zaq <| ai @zij <| ai @zgA <| ai @zik <| ai @zkN <| ai @zkO <| ai @zqe <| @ze2
theorem gr4:type_of% (ai @zf4 <| ai @zdS <| ai @zf5 <| ai @zeJ <| ai @List.length_set.{0} <| ai @List.length_range <| ai @zil <| ai @zim <| ai @zdx <| ai @zqk <| ai @zql <| @zhr):=ai @zf4 <| ai @zdS <| ai @zf5 <| ai @zeJ <| ai @List.length_set.{0} <| ai @List.length_range <| ai @zil <| ai @zim <| ai @zdx <| ai @zqk <| ai @zql <| @zhr
theorem gr:type_of% (ai @gr0 <| ai @gr1 <| ai @gr2 <| ai @gr3 <| @gr4):=ai @gr0 <| ai @gr1 <| ai @gr2 <| ai @gr3 <| @gr4
set_option linter.unusedSimpArgs false
def zkn (k n i:Nat):List PV:=(List.range n).map fun t=>if t < i then .own (sid k t) 1 else .v (.slice none 0 0)
theorem zDb (k n:Nat):List.replicate n (PV.v (.slice none 0 0)) = zkn k n 0:=by
 refine List.ext_getElem (by simp [zkn]) fun t a b=>by simp [zkn]
theorem zbW (k n i:Nat):(zkn k n i).length = n:=by simp [zkn]
theorem zFv (k n:Nat):zkn k n n = zaJ k (List.range n):=by
 refine List.ext_getElem (by simp [zkn,zaJ]) fun t a b=>?_
 have:t < n:=by simpa [zkn] using a
 simp [zkn,zaJ,this]
theorem zFw [zae] {k n i d v:Nat} (h:i < n):(zkn k n (i + 1)).length = (spl (zkn k n i) i [.own d v]).length /\
 ∀ t (a:t < (spl (zkn k n i) i [PV.own d v]).length) (b:t < (zkn k n (i + 1)).length),(zkn k n (i + 1))[t] = (spl (zkn k n i) i [PV.own d v])[t] \/ ((spl (zkn k n i) i [PV.own d v])[t] = .own d v/\(zkn k n (i + 1))[t] = .own (sid k i) 1):=by
 rw [zIK (by rw [zbW];exact h)]
 refine ⟨by simp [zbW],fun t a b=>?_⟩
 rw [List.getElem_set]
 by_cases he:i = t
 ·subst he
  rw [if_pos rfl]
  refine .inr ⟨rfl,?_⟩
  simp [zkn]
 ·rw [if_neg he]
  refine .inl ?_
  simp only [zkn,List.getElem_map,List.getElem_range]
  by_cases ht:t < i
  ·rw [if_pos ht,if_pos om]
  ·rw [if_neg ht,if_neg om]
section
variable {P:Program} {T:Tab} {s:St}
theorem Wk.tab [zae] {k v e:Nat} {c:List PV} (hk:s.rw k = ⟨v,.sli e 1 false c⟩) (hc:zbs c):Wk s (s.row k ⟨v,.tab e c⟩):=by
 intro G a w ⟨E,hs⟩
 have hR:E.R k = ⟨v,.sli e 1 false c⟩:=by rw [hs.rw];exact hk
 have ht:OneTurn E w w k ⟨v,.tab e c⟩ (E.rm k) (E.rv k) :=
  ⟨fun _ _ _=>rfl,fun b hb _=>.inr ⟨hb,by rw [hR];rfl,fun _=>by rw [hR];rfl⟩,by rw [hR];exact Nat.le_refl _,
   fun _ _=>⟨by rw [hR];rfl,rfl⟩,fun _ _=>⟨by rw [hR];rfl,rfl⟩,fun _=>by have:=hs.wok.pos k (by rw [hR];rfl);rw [hR] at this;exact this,Nat.le_refl _,rfl,rfl,⟨rfl,fun _=>by first | exact Nat.le_refl _ | exact Nat.le_succ _⟩⟩
 have hturn:=ht.turn (fz:=[]) hs.wok
 have hrows:=ht.rows (fz:=[]) hs.wok (fun j hj=>by cases hj) (fun hl=>by
  have hrow:=hs.wok.rows k
  unfold zav at hrow ⊢
  rw [hR] at hrow
  simp only [Env.turn,zaf]
  rcases hrow with h | ⟨b,n,cap,vs,rest,h1,h2,h3,h4,h5,h6,h7,h8,h9⟩
  ·exact .inl h
  ·exact .inr ⟨b,n,cap,vs,rest,h1,h2,h3,h4,om,h6,h7,om,zdr hc h9⟩)
 have:=hturn.sim hs hrows
 refine ⟨E.turn [] k ⟨v,.tab e c⟩ (E.rm k) (E.rv k),?_⟩
 have e:({ s with rw:=(E.turn [] k ⟨v,.tab e c⟩ (E.rm k) (E.rv k)).R }:St) = s.row k ⟨v,.tab e c⟩:=by
  have hf:zis E.R [] = E.R:=zgF E.R
  simp only [Env.turn,hf,hs.rw]
  rfl
 rw [e] at this
 exact this
theorem Wk.ren [zae] {d k k' v vk e et sz:Nat} {c cs cs':List PV} (hd:s.rw d = ⟨v,.sli e sz false c⟩) (hk:s.rw k = ⟨vk,.tab et cs⟩) (hk':s.rw k' = ⟨0,.dead⟩) (hdl:d < lent)
 (hcs:cs'.length = cs.length/\∀ i (a:i < cs.length) (b:i < cs'.length),cs'[i] = cs[i] \/ (cs[i] = .own d v/\cs'[i] = .own k' 1)) :
 Wk s (((s.row d ⟨v + 1,.dead⟩).row k' ⟨1,.sli e sz false c⟩).row k ⟨vk,.tab et cs'⟩):=by
 intro G a w ⟨E,hs⟩
 have hRd:E.R d = ⟨v,.sli e sz false c⟩:=by rw [hs.rw];exact hd
 have hRk:E.R k = ⟨vk,.tab et cs⟩:=by rw [hs.rw];exact hk
 have hRk':E.R k' = ⟨0,.dead⟩:=by rw [hs.rw];exact hk'
 have ndk:d ≠ k:=fun e=>by rw [e,hRk] at hRd;cases hRd
 have ndk':d ≠ k':=fun e=>by rw [e,hRk'] at hRd;cases hRd
 have nkk':k ≠ k':=fun e=>by rw [e,hRk'] at hRk;cases hRk
 let R':Nat->Row:=zcR (zcR (zcR E.R d ⟨v + 1,.dead⟩) k' ⟨1,.sli e sz false c⟩) k ⟨vk,.tab et cs'⟩
 let rm':Nat->Option Nat:=zcR (zcR E.rm d none) k' (E.rm d)
 let rv':Nat->Value:=zcR E.rv k' (E.rv d)
 let E':Env:={ R:=R',rm:=rm',rv:=rv',L:=mkL E.X R' rm',B:=E.B,X:=E.X }
 have Rk:E'.R k = ⟨vk,.tab et cs'⟩:=zaf _ _ _
 have Rk':E'.R k' = ⟨1,.sli e sz false c⟩:=by show R' k' = _;simp only [R'];rw [zam _ _ (Ne.symm nkk'),zaf]
 have Rd:E'.R d = ⟨v + 1,.dead⟩:=by show R' d = _;simp only [R'];rw [zam _ _ ndk,zam _ _ ndk',zaf]
 have Ro:∀ j,j ≠ d->j ≠ k->j ≠ k'->E'.R j = E.R j:=fun j h1 h2 h3=>by show R' j = _;simp only [R'];rw [zam _ _ h2,zam _ _ h3,zam _ _ h1]
 have Mk':E'.rm k' = E.rm d:=zaf _ _ _
 have Md:E'.rm d = none:=by show rm' d = _;simp only [rm'];rw [zam _ _ ndk',zaf]
 have Mo:∀ j,j ≠ d->j ≠ k'->E'.rm j = E.rm j:=fun j h1 h3=>by show rm' j = _;simp only [rm'];rw [zam _ _ h3,zam _ _ h1]
 have Vk':E'.rv k' = E.rv d:=zaf _ _ _
 have Vo:∀ j,j ≠ k'->E'.rv j = E.rv j:=fun j h=>zam _ _ h
 have hL:∀ b,E'.L b ↔ E.L b:=by
  intro b
  rw [hs.wok.live]
  constructor
  ·rintro (⟨j,h1,h2⟩ | hX)
   rotate_left
   ·exact .inr hX
   refine .inl ?_
   have h1:E'.rm j = some b:=h1
   have h2:(E'.R j).kind.live = true:=h2
   by_cases jk':j = k'
   ·subst jk';rw [Mk'] at h1;exact ⟨d,h1,by rw [hRd];rfl⟩
   ·by_cases jd:j = d
    ·subst jd;rw [Md] at h1;cases h1
    ·rw [Mo j jd jk'] at h1
     by_cases jk:j = k
     ·subst jk;exact ⟨j,h1,by rw [hRk];rfl⟩
     ·rw [Ro j jd jk jk'] at h2;exact ⟨j,h1,h2⟩
  ·rintro (⟨j,h1,h2⟩ | hX)
   rotate_left
   ·exact .inr hX
   refine .inl ?_
   by_cases jk':j = k'
   ·subst jk';rw [hRk'] at h2;cases h2
   ·by_cases jd:j = d
    ·subst jd;exact ⟨k',by show E'.rm k' = some b;rw [Mk'];exact h1,by show (E'.R k').kind.live = true;rw [Rk'];rfl⟩
    ·by_cases jk:j = k
     ·subst jk;exact ⟨j,by show E'.rm j = some b;rw [Mo j jd jk'];exact h1,by show (E'.R j).kind.live = true;rw [Rk];rfl⟩
     ·exact ⟨j,by show E'.rm j = some b;rw [Mo j jd jk'];exact h1,by show (E'.R j).kind.live = true;rw [Ro j jd jk jk'];exact h2⟩
 have hl:Lasts w w E E':=by
  refine ⟨fun b _ h=>⟨rfl,fun h'=>h ((hL b).1 h')⟩,fun j=>?_,fun j he hs'=>?_,fun j he hs'=>?_,Nat.le_refl _⟩
  all_goals
   by_cases jk':j = k'
   ·subst jk'
    first
     | (rw [hRk'];exact Nat.zero_le _)
     | (rw [Rk',hRk'] at he;cases he)
   ·by_cases jd:j = d
    ·subst jd
     first
      | (rw [Rd,hRd];exact Nat.le_succ _)
      | (rw [Rd] at hs';cases hs')
    ·by_cases jk:j = k
     ·subst jk
      first
       | (rw [Rk,hRk];exact Nat.le_refl _)
       | exact ⟨by rw [hRk];rfl,Vo j jk'⟩
       | exact ⟨by rw [hRk];rfl,Mo j jd jk'⟩
     ·first
       | (rw [Ro j jd jk jk'];exact Nat.le_refl _)
       | (rw [Ro j jd jk jk'] at hs';exact ⟨hs',Vo j jk'⟩)
       | (rw [Ro j jd jk jk'] at hs';exact ⟨hs',Mo j jd jk'⟩)
 have hwok:WOk G E' w:=by
  refine ⟨fun j=>?_,fun j j' b n1 n2 e1 e2=>?_,fun b=>Iff.rfl,fun j hn=>?_,hs.wok.base,hs.wok.xs,hs.wok.fx,fun j b hn hb=>?_,hs.wok.kept,fun j=>?_⟩
  ·by_cases jk':j = k'
   ·subst jk'
    have hrow:=hs.wok.rows d
    unfold zav at hrow ⊢
    rw [hRd] at hrow
    rw [Rk',Mk',Vk']
    rcases hrow with h | ⟨b,n,cap,vs,rest,h1,h2,h3,h4,h5,h6,h7,h8,h9⟩
    ·exact .inl h
    ·refine .inr ⟨b,n,cap,vs,rest,h1,?_,h3,h4,h5,h6,h7,h8,h9.mono hl.bare (Nat.le_refl _)⟩
     rcases h2 with h2 | h2
     ·exact .inl h2
     ·exact absurd h2.1 om
   ·by_cases jd:j = d
    ·subst jd;unfold zav;rw [Rd];trivial
    ·by_cases jk:j = k
     ·subst jk
      have hrow:=hs.wok.rows j
      unfold zav at hrow ⊢
      rw [hRk] at hrow
      rw [Rk,Mo j jd jk',Vo j jk']
      rcases hrow with ⟨g1,g2,g3⟩ | ⟨b,n,cap,vs,rest,h1,h2,h3,h4,h5,h6,h7,h8,h9⟩
      ·refine .inl ⟨g1,g2,List.eq_nil_of_length_eq_zero (by rw [hcs.1,g3];rfl)⟩
      ·refine .inr ⟨b,n,cap,vs,rest,h1,h2,h3,h4,h5,h6,h7,h8,by rw [hcs.1];exact h9.1,fun i a' b'=>?_⟩
       have ha:i < cs.length:=by rw [<- hcs.1];exact a'
       have h0:=h9.2 i ha b'
       rcases hcs.2 i ha a' with he | ⟨he1,he2⟩
       ·rw [he];exact h0.mono hl (Nat.le_refl _)
       ·rw [he1] at h0
        rw [he2]
        cases h0 with
        | own hv hx =>
          refine .own (by rw [Rk'];exact Nat.le_refl _) fun _ _=>?_
          rw [Vk']
          exact hx (by rw [hRd]) (by rw [hRd];rfl)
     ·have hrow:=hs.wok.rows j
      unfold zav at hrow ⊢
      rw [Ro j jd jk jk',Mo j jd jk',Vo j jk']
      cases hkd:(E.R j).kind with
      | mp f=>simpa only [hkd] using hrow
      | dead=>trivial
      | nil=>simpa only [hkd] using hrow
      | box t cells =>
        simp only [hkd] at hrow ⊢
        obtain ⟨b,vs,h1,h2,h3,h4⟩:=hrow
        exact ⟨b,vs,h1,h2,h3,h4.mono hl (Nat.le_refl _)⟩
      | sli e sz fz cells =>
        simp only [hkd] at hrow ⊢
        rcases hrow with h | ⟨b,n,cap,vs,rest,h1,h2,h3,h4,h5,h6,h7,h8,h9⟩
        ·exact .inl h
        ·exact .inr ⟨b,n,cap,vs,rest,h1,h2,h3,h4,h5,h6,h7,h8,h9.mono hl.bare (Nat.le_refl _)⟩
      | tab e cells =>
        simp only [hkd] at hrow ⊢
        rcases hrow with h | ⟨b,n,cap,vs,rest,h1,h2,h3,h4,h5,h6,h7,h8,h9⟩
        ·exact .inl h
        ·exact .inr ⟨b,n,cap,vs,rest,h1,h2,h3,h4,h5,h6,h7,h8,h9.mono hl (Nat.le_refl _)⟩
  ·
   have back:∀ j b,(E'.R j).kind.nd = true->E'.rm j = some b->(if j = k' then d else j) = (if j = k' then d else j)/\(E.R (if j = k' then d else j)).kind.nd = true/\E.rm (if j = k' then d else j) = some b/\j ≠ d:=by
    intro j b hn hm
    by_cases jk':j = k'
    ·subst jk';rw [if_pos rfl];rw [Mk'] at hm;exact ⟨rfl,by rw [hRd];rfl,hm,Ne.symm ndk'⟩
    ·rw [if_neg jk']
     have jd:j ≠ d:=fun e=>by subst e;rw [Md] at hm;cases hm
     rw [Mo j jd jk'] at hm
     refine ⟨rfl,?_,hm,jd⟩
     by_cases jk:j = k
     ·subst jk;rw [hRk];rfl
     ·rw [<- Ro j jd jk jk'];exact hn
   obtain ⟨_,a1,a2,a3⟩:=back j b n1 e1
   obtain ⟨_,b1,b2,b3⟩:=back j' b n2 e2
   have:=hs.wok.inj _ _ b a1 b1 a2 b2
   by_cases jk:j = k'
   ·by_cases jk2:j' = k'
    ·rw [jk,jk2]
    ·rw [if_pos jk,if_neg jk2] at this;exact absurd this.symm b3
   ·by_cases jk2:j' = k'
    ·rw [if_neg jk,if_pos jk2] at this;exact absurd this a3
    ·rw [if_neg jk,if_neg jk2] at this;exact this
  ·by_cases jk':j = k'
   ·subst jk';rw [Rk'];exact Nat.one_pos
   ·by_cases jd:j = d
    ·subst jd;rw [Rd];exact Nat.succ_pos _
    ·by_cases jk:j = k
     ·subst jk;rw [Rk];have:=hs.wok.pos j (by rw [hRk];rfl);rw [hRk] at this;exact this
     ·rw [Ro j jd jk jk'] at hn ⊢;exact hs.wok.pos j hn
  ·by_cases jk':j = k'
   ·subst jk';rw [Mk'] at hb;exact hs.wok.apart d b (by rw [hRd];rfl) hb
   ·by_cases jd:j = d
    ·subst jd;rw [Md] at hb;cases hb
    ·rw [Mo j jd jk'] at hb
     by_cases jk:j = k
     ·subst jk;exact hs.wok.apart j b (by rw [hRk];rfl) hb
     ·rw [Ro j jd jk jk'] at hn;exact hs.wok.apart j b hn hb
  ·obtain ⟨p1,p2⟩:=hs.wok.pin j
   by_cases jk':j = k'
   ·subst jk'
    rw [hRk'] at p1
    have p1:(G.pR j).ver = 0:=Nat.le_zero.1 p1
    rw [Rk']
    exact ⟨by rw [p1];exact Nat.zero_le _,fun h=>by rw [p1] at h;cases h⟩
   ·by_cases jd:j = d
    ·subst jd
     rw [Rd]
     rw [hRd] at p1
     exact ⟨Nat.le_succ_of_le p1,fun h h'=>by cases h'⟩
    ·by_cases jk:j = k
     ·subst jk
      rw [Rk,Mo j jd jk',Vo j jk']
      rw [hRk] at p1 p2
      exact ⟨p1,fun h _=>p2 h rfl⟩
     ·rw [Ro j jd jk jk',Mo j jd jk',Vo j jk'];exact ⟨p1,p2⟩
 refine ⟨E',?_,hwok,hs.size,hs.defers,fun i=>(hs.slots i).mono hl (Nat.le_refl _)⟩
 show R' = _
 simp only [R',hs.rw]
 rfl
end
section
variable {Q:AX->St->Prop} {s:St}
theorem zIW [zae] {α:Type} (I:α->St->Prop) (μ:α->Nat) (x0:α) {s0:St} (hw:Wk s s0) {b:(AX->St->Prop)->St->Prop} {u:Dm b} {v:Dm Q} (h0:I x0 s0) (h:∀ x s1,I x s1->b (AX.seq (znE I μ (μ x)) Q) s1):zs8 (kk b u) (kk Q v) s :=
 ⟨α,I,μ,⟨x0,s0,hw,h0⟩,h⟩
theorem zzj (n:Nat):zbs (List.replicate n (.v (.slice none 0 0))):=fun p hp=>by
 rw [(List.mem_replicate.1 hp).2];rfl
end
theorem ztD {rw:Nat->Row} {e2 k:Nat}:∀ (p:List Nat) (rows:List (List PV)) (K:List Nat->Prop),rows.length = p.length ->
 (∀ i (a:i < p.length) (b:i < rows.length),sid k p[i] < lent/\rw (sid k p[i]) = ⟨1,.sli e2 1 false rows[i]⟩)->K (p.map (sid k))->zs5 rw e2 (zaJ k p) rows K:=by
 intro p
 induction p with
 | nil=>intro rows K h _ hk;cases rows with | nil=>exact hk | cons r rs=>simp at h
 | cons j p ih =>
   intro rows K h hr hk
   cases rows with
   | nil=>simp at h
   | cons r rs =>
     have h0:=hr 0 sp sp
     exact ⟨h0.1,h0.2,ih rs _ (by simpa using h) (fun i a b=>hr (i + 1) (by simpa using a) (by simpa using b)) hk⟩
set_option linter.unusedVariables false
abbrev Mat:=List (List Int)
structure TabI (rw:Nat->Row) (k v e e2:Nat) (q:List Nat) (M:Mat):Prop where
 is:TabIs rw k v e e2 q (M.map iL)
 nd:q.Nodup
theorem zdt (M:Mat) (i:Nat):(M.map iL).getD i [] = iL (M.getD i []):=by
 by_cases h:i < M.length
 ·simp [List.getD,h]
 ·simp [List.getD,h,iL]
section
variable {rw rw':Nat->Row} {k v e e2:Nat} {q:List Nat} {M:Mat}
theorem TabI.len (h:TabI rw k v e e2 q M):q.length = M.length:=by rw [h.is.len];simp
theorem TabI.top (h:TabI rw k v e e2 q M):rw k = ⟨v,.tab e (zaJ k q)⟩:=h.is.top
theorem TabI.row [zae] (h:TabI rw k v e e2 q M) {i:Nat} (hi:i < M.length):rw (sid k (q.getD i 0)) = ⟨1,.sli e2 1 false (iL (M.getD i []))⟩:=by
 rw [h.is.row i (by rw [h.len];exact hi),zdt]
theorem TabI.ne [zae] (h:TabI rw k v e e2 q M) {i j:Nat} (hi:i < M.length) (hj:j < M.length) (hij:i ≠ j):¬ sid k (q.getD i 0) = sid k (q.getD j 0):=fun e=>by
 have hi':i < q.length:=by rw [h.len];exact hi
 have hj':j < q.length:=by rw [h.len];exact hj
 have h1:q.getD i 0 = q[i]:=by simp [List.getD,hi']
 have h2:q.getD j 0 = q[j]:=by simp [List.getD,hj']
 have:=ze7 e
 rw [h1,h2] at this
 exact hij ((List.getElem_inj (h₀:=hi') (h₁:=hj') h.nd).1 this)
theorem TabI.same [zae] (h:TabI rw k v e e2 q M) (h1:rw' k = rw k) (h2:∀ x,rw' (sid k x) = rw (sid k x)):TabI rw' k v e e2 q M :=
 ⟨⟨h1.trans h.top,h.is.len,fun i hi=>(h2 _).trans (h.is.row i hi)⟩,h.nd⟩
theorem TabI.to (h:TabI rw k v e e2 q M) {M':Mat} (he:M = M'):TabI rw k v e e2 q M':=he ▸ h
theorem TabI.set [zae] (h:TabI rw k v e e2 q M) {i:Nat} (hi:i < M.length) {r:List Int} (h1:rw' k = rw k) (h2:rw' (sid k (q.getD i 0)) = ⟨1,.sli e2 1 false (iL r)⟩)
 (h3:∀ x,¬ sid k x = sid k (q.getD i 0)->rw' (sid k x) = rw (sid k x)):TabI rw' k v e e2 q (M.set i r):=by
 refine ⟨⟨h1.trans h.top,by rw [h.len];simp,fun j hj=>?_⟩,h.nd⟩
 have hj':j < M.length:=by rw [<- h.len];exact hj
 rw [zdt]
 by_cases e:j = i
 ·subst e
  have:(M.set j r).getD j [] = r:=by simp [List.getD,hi]
  rw [h2,this]
 ·have:(M.set i r).getD j [] = M.getD j []:=by simp [List.getD,List.getElem?_set_ne (Ne.symm e)]
  rw [h3 _ (h.ne hj' hi e),h.row hj',this]
theorem TabI.swap [zae] (h:TabI rw k v e e2 q M) {a b:Nat} (ha:a < M.length) (hb:b < M.length) (h1:rw' k = ⟨v,.tab e (zaJ k ((q.set a (q.getD b 0)).set b (q.getD a 0)))⟩) (h2:∀ x,rw' (sid k x) = rw (sid k x)) :
 TabI rw' k v e e2 ((q.set a (q.getD b 0)).set b (q.getD a 0)) ((M.set a (M.getD b [])).set b (M.getD a []))/\((q.set a (q.getD b 0)).set b (q.getD a 0)).Perm q:=by
 have ha':a < q.length:=by rw [h.len];exact ha
 have hb':b < q.length:=by rw [h.len];exact hb
 have e1:q.getD a 0 = q[a]:=by simp [List.getD,ha']
 have e2':q.getD b 0 = q[b]:=by simp [List.getD,hb']
 have hp:((q.set a (q.getD b 0)).set b (q.getD a 0)).Perm q:=by rw [e1,e2'];exact List.set_set_perm ha' hb'
 refine ⟨⟨⟨h1,by simp [h.len],fun j hj=>?_⟩,hp.nodup_iff.2 h.nd⟩,hp⟩
 have hj':j < M.length:=by simpa [h.len] using hj
 have hjq:j < q.length:=by rw [h.len];exact hj'
 rw [zdt,h2]
 by_cases eb:j = b
 ·subst eb
  have q1:((q.set a (q.getD j 0)).set j (q.getD a 0)).getD j 0 = q.getD a 0:=by simp [List.getD,hjq]
  have q2:((M.set a (M.getD j [])).set j (M.getD a [])).getD j [] = M.getD a []:=by simp [List.getD,hj']
  rw [q1,q2];exact h.row ha
 ·by_cases ea:j = a
  ·subst ea
   have q1:((q.set j (q.getD b 0)).set b (q.getD j 0)).getD j 0 = q.getD b 0:=by
    simp only [List.getD]
    rw [List.getElem?_set_ne (Ne.symm eb),List.getElem?_set_self hjq];rfl
   have q2:((M.set j (M.getD b [])).set b (M.getD j [])).getD j [] = M.getD b []:=by
    simp only [List.getD]
    rw [List.getElem?_set_ne (Ne.symm eb),List.getElem?_set_self hj'];rfl
   rw [q1,q2];exact h.row hb
  ·have q1:((q.set a (q.getD b 0)).set b (q.getD a 0)).getD j 0 = q.getD j 0:=by
    simp only [List.getD]
    rw [List.getElem?_set_ne (Ne.symm eb),List.getElem?_set_ne (Ne.symm ea)]
   have q2:((M.set a (M.getD b [])).set b (M.getD a [])).getD j [] = M.getD j []:=by
    simp only [List.getD]
    rw [List.getElem?_set_ne (Ne.symm eb),List.getElem?_set_ne (Ne.symm ea)]
   rw [q1,q2];exact h.row hj'
theorem zHL [zae] (M:Mat):zmj (M.map iL):=fun i _=>by rw [zdt];exact zaU _
theorem zNG [zae] (e e2:Nat) (M:Mat):TabI (inT e e2 (M.map iL)) 1000000 1 e e2 (List.range M.length) M:=by
 refine ⟨?_,List.nodup_range⟩
 have:=@zMp e e2 (M.map iL)
 rw [List.length_map] at this
 exact this
end
theorem AT.goI [zae] {P:Program} {T:Tab} {f:FuncId} {fn:Func} {c:Code} {rs:List ResultVar} {args:List PV} {e e2:Nat} {M M':Mat} {res:TR} (hT:T.Ok P) (hm:P.follows .mixedOrders = true) (hf:P.funcs[f]? = some fn) (hname:(fn.name == "runtime.NumGoroutine") = false)
 (hb:fn.body = some c) (hr:fn.results.toList = rs) (hfit:(fits fn.ntmps c && decide (args.length <= fn.ntmps) && decide (fn.results.toList.length <= 4)) = true) (hlen:M'.length = M.length)
 (h:M.length <= 9223372036854775807->∀ s:St,(∀ i,s.sl i = args.getD i .junk)->(∀ j,j < 1000000->s.rw j = ⟨0,.dead⟩)->TabI s.rw 1000000 1 e e2 (List.range M.length) M->cwp P T c (zNb T rs e e2 M.length (M'.map iL) res) s):AT P f args e e2 (M.map iL) (M'.map iL) res:=by
 subst hr
 refine AT.of hT hm hf hname hb hfit (zHL M) (zHL M') (by simpa using hlen) fun h1 _=>?_
 have:=h (by simpa using h1) (St.initT args e e2 (M.map iL)) (fun _=>rfl) (fun j hj=>zHH hj) (zNG e e2 M)
 have e9:(M.map iL).length = M.length:=List.length_map _
 rwa [<- e9] at this
theorem zmA {rw:Nat->Row} {e e2 n:Nat} {q:List Nat} {M:Mat} (h:TabI rw 1000000 1 e e2 q M) (hq:q.Perm (List.range n)):zxM rw e e2 n (M.map iL):=⟨q,h.is,hq⟩
structure TabP (rw:Nat->Row) (k v e e2 n i:Nat) (M:Mat):Prop where
 top:rw k = ⟨v,.tab e (zkn k n i)⟩
 len:M.length = i
 row:∀ j,j < i->rw (sid k j) = ⟨1,.sli e2 1 false (iL (M.getD j []))⟩
 rest:∀ j,i <= j->rw (sid k j) = ⟨0,.dead⟩
section
variable {s:St} {rw rw':Nat->Row} {k v e e2 n i d vd:Nat} {M:Mat} {r:List Int}
theorem TabP.init [zae] (e2:Nat) (hk:s.rw k = ⟨v,.sli e 1 false (List.replicate n (.v (.slice none 0 0)))⟩) (hd:∀ j,s.rw (sid k j) = ⟨0,.dead⟩) :
 ∃ s',Wk s s'/\TabP s'.rw k v e e2 n 0 []/\s'.sl = s.sl/\∀ j,(j % 1000 == k % 1000) = false->s'.rw j = s.rw j:=by
 refine ⟨_,Wk.tab hk (zzj n),⟨?_,rfl,fun j hj=>absurd hj om,fun j _=>?_⟩,rfl,fun j hj=>?_⟩
 ·rw [zaA,zDb]
 ·rw [zap _ _ _ _ (zfz k j)];exact hd j
 ·have hj:=beq_eq_false_iff_ne.1 hj
  rw [zap _ _ _ _ (fun e=>hj (by rw [e]))]
theorem zmB {M:Mat} {r:List Int} {j:Nat}:(M ++ [r]).getD j [] = if j < M.length then M.getD j [] else if j = M.length then r else []:=by
 by_cases h1:j < M.length
 ·rw [if_pos h1];simp [List.getD,List.getElem?_append_left h1]
 ·rw [if_neg h1]
  by_cases h2:j = M.length
  ·rw [if_pos h2];subst h2;simp [List.getD]
  ·rw [if_neg h2];simp [List.getD,List.getElem?_append_right (by omega:M.length <= j)];rw [List.getElem?_eq_none (by simp;omega)];rfl
theorem TabP.push [zae] (hk:s.rw k = ⟨v,.tab e (spl (zkn k n i) i [.own d vd])⟩) (hl:M.length = i) (hrow:∀ j,j < i->s.rw (sid k j) = ⟨1,.sli e2 1 false (iL (M.getD j []))⟩) (hrest:∀ j,i <= j->s.rw (sid k j) = ⟨0,.dead⟩)
 (hd:s.rw d = ⟨vd,.sli e2 1 false (iL r)⟩) (hdl:d < lent) (hdk:(d % 1000 == k % 1000) = false) (hi:i < n) :
 ∃ s',Wk s s'/\TabP s'.rw k v e e2 n (i + 1) (M ++ [r])/\s'.sl = s.sl/\∀ j,(j % 1000 == k % 1000) = false->(j == d) = false->s'.rw j = s.rw j:=by
 have hdk':=beq_eq_false_iff_ne.1 hdk
 have ndk:d ≠ k:=fun e=>hdk' (by rw [e])
 have nds:∀ j,d ≠ sid k j:=fun j e=>hdk' (by rw [e,zdx])
 refine ⟨_,Wk.ren (k':=sid k i) (cs':=zkn k n (i + 1)) hd hk (hrest i (Nat.le_refl i)) hdl (zFw hi),⟨?_,by simp [hl],fun j hj=>?_,fun j hj=>?_⟩,rfl,fun j hj hj2=>?_⟩
 ·rw [zaA]
 ·rw [zap _ _ _ _ (zfz k j),zmB,hl]
  by_cases e1:j = i
  ·subst e1
   rw [zaA,if_neg om,if_pos rfl]
  ·rw [zap _ _ _ _ (fun h=>e1 (ze7 h)),zap _ _ _ _ (Ne.symm (nds j)),if_pos om]
   exact hrow j om
 ·rw [zap _ _ _ _ (zfz k j),zap _ _ _ _ (fun h=>by have:=ze7 h;omega),zap _ _ _ _ (Ne.symm (nds j))]
  exact hrest j om
 ·have hj:=beq_eq_false_iff_ne.1 hj
  have hj2:=beq_eq_false_iff_ne.1 hj2
  rw [zap _ _ _ _ (fun e=>hj (by rw [e])),zap _ _ _ _ (fun e=>hj (by rw [e,zdx])),zap _ _ _ _ hj2]
theorem TabP.set (h:TabP rw k v e e2 n i M) {j:Nat} (hj:j < i) (h1:rw' k = rw k) (h2:rw' (sid k j) = ⟨1,.sli e2 1 false (iL r)⟩) (h3:∀ x,¬ x = j->rw' (sid k x) = rw (sid k x)):TabP rw' k v e e2 n i (M.set j r):=by
 refine ⟨h1.trans h.top,by simp [h.len],fun x hx=>?_,fun x hx=>(h3 x om).trans (h.rest x hx)⟩
 by_cases e:x = j
 ·subst e
  have:(M.set x r).getD x [] = r:=by simp [List.getD,h.len,hj]
  rw [h2,this]
 ·have:(M.set j r).getD x [] = M.getD x []:=by simp [List.getD,List.getElem?_set_ne (Ne.symm e)]
  rw [h3 x e,h.row x hx,this]
theorem TabP.same (h:TabP rw k v e e2 n i M) (h1:rw' k = rw k) (h2:∀ x,rw' (sid k x) = rw (sid k x)):TabP rw' k v e e2 n i M :=
 ⟨h1.trans h.top,h.len,fun j hj=>(h2 j).trans (h.row j hj),fun j hj=>(h2 j).trans (h.rest j hj)⟩
theorem TabP.done [zae] (h:TabP rw k v e e2 n n M):TabI rw k v e e2 (List.range n) M:=by
 refine ⟨⟨by rw [h.top,zFv],by simp [h.len],fun j hj=>?_⟩,List.nodup_range⟩
 have hj:j < n:=by simpa using hj
 have e1:(List.range n).getD j 0 = j:=by simp [List.getD,hj]
 rw [e1,zdt];exact h.row j hj
theorem zmC [zae] {T:Tab} {Kp:PV->Prop} (k n i:Nat) {t:TypeId} (h0:(T t).k.agg = false) (h1:0 < (T t).size):ldK T t .asis (zkn k n (i + 1)) i Kp = (i < n/\Kp (.own (sid k i) 1)):=by
 have:=zf1 (T:=T) (Kp:=Kp) (fun j=>if j < i + 1 then PV.own (sid k j) 1 else .v (.slice none 0 0)) 0 (List.range n) (t:=t) (m:=.asis) i (fun j=>if j < i + 1 then PV.own (sid k j) 1 else .v (.slice none 0 0)) (fun _=>rfl) h0 h1
 refine (show ldK T t .asis (zkn k n (i + 1)) i Kp = _ from this).trans ?_
 rw [List.length_range]
 refine propext ⟨fun ⟨a,b⟩=>⟨a,?_⟩,fun ⟨a,b⟩=>⟨a,?_⟩⟩
 ·have e1:(List.range n).getD i 0 = i:=by simp [List.getD,a]
  rw [e1] at b;simpa using b
 ·have e1:(List.range n).getD i 0 = i:=by simp [List.getD,a]
  rw [e1];simpa using b
theorem ztA [zae] {q:List Nat} (h:TabI rw k v e e2 q M) (hk:k < 1000) (hq:∀ j ∈ q,j < 998):zs6 rw (.own k v) (.tb e e2 (M.map iL)) List.Nodup:=by
 have hkl:k < lent:=by unfold lent;omega
 show znF rw (.own k v) (.tb e e2 (M.map iL)) List.Nodup
 unfold znF
 simp only [h.top]
 refine ⟨hkl,trivial,trivial,ztD q (M.map iL) _ (by rw [List.length_map,h.len]) (fun i a b=>?_) ?_⟩
 ·have hm:i < M.length:=by simpa using b
  have hr:=h.row hm
  have e1:q.getD i 0 = q[i]:=by simp [List.getD,a]
  have e3:M.getD i [] = M[i]:=by simp [List.getD,hm]
  rw [e1,e3] at hr
  refine ⟨zqm hk (hq _ (List.getElem_mem a)),?_⟩
  rw [hr,List.getElem_map]
 ·refine List.nodup_cons.2 ⟨fun hm=>?_,?_⟩
  ·obtain ⟨j,_,hj⟩:=List.mem_map.1 hm
   rw [zbN] at hj;omega
  ·refine List.Pairwise.map _ (fun a b hab=>?_) h.nd
   rw [Ne,zhr];exact hab
theorem zmD [zae] {q:List Nat} (h:TabI rw k v e e2 q M) (hk:k < 1000) (hq:∀ j ∈ q,j < 998) {Kn:List Nat->Prop} (hK:Kn (k :: q.map (sid k))):znF rw (.own k v) (.tb e e2 (M.map iL)) Kn:=by
 have hkl:k < lent:=by unfold lent;omega
 unfold znF
 simp only [h.top]
 refine ⟨hkl,trivial,trivial,ztD q (M.map iL) _ (by rw [List.length_map,h.len]) (fun i a b=>?_) hK⟩
 have hm:i < M.length:=by simpa using b
 have hr:=h.row hm
 have e1:q.getD i 0 = q[i]:=by simp [List.getD,a]
 have e3:M.getD i [] = M[i]:=by simp [List.getD,hm]
 rw [e1,e3] at hr
 refine ⟨zqm hk (hq _ (List.getElem_mem a)),?_⟩
 rw [hr,List.getElem_map]
end
section
variable {Q:AX->St->Prop} {s:St} {k v e e2 n i d vd:Nat} {M:Mat} {r:List Int}
theorem zx3 [zae] {α:Type} (hk:s.rw k = ⟨v,.sli e 1 false (List.replicate n (.v (.slice none 0 0)))⟩) (hd:∀ j,s.rw (sid k j) = ⟨0,.dead⟩) (I:α->St->Prop) (μ:α->Nat) (x0:α) {b:(AX->St->Prop)->St->Prop} {u:Dm b} {w:Dm Q}
 (h0:∀ s',TabP s'.rw k v e e2 n 0 []->s'.sl = s.sl->(∀ j,(j % 1000 == k % 1000) = false->s'.rw j = s.rw j)->I x0 s') (h:∀ x s1,I x s1->b (AX.seq (znE I μ (μ x)) Q) s1):zs8 (kk b u) (kk Q w) s:=by
 obtain ⟨s',hw,ht,hsl,ho⟩:=TabP.init e2 hk hd
 exact ⟨α,I,μ,⟨x0,s',hw,h0 s' ht hsl ho⟩,h⟩
theorem ztB [zae] {α:Type} (hk:s.rw k = ⟨v,.tab e (spl (zkn k n i) i [.own d vd])⟩) (hl:M.length = i) (hrow:∀ j,j < i->s.rw (sid k j) = ⟨1,.sli e2 1 false (iL (M.getD j []))⟩) (hrest:∀ j,i <= j->s.rw (sid k j) = ⟨0,.dead⟩)
 (hd:s.rw d = ⟨vd,.sli e2 1 false (iL r)⟩) (hdl:d < lent) (hdk:(d % 1000 == k % 1000) = false) (hi:i < n) (I:α->St->Prop) (μ:α->Nat) (x0:α) {b:(AX->St->Prop)->St->Prop} {u:Dm b} {w:Dm Q}
 (h0:∀ s',TabP s'.rw k v e e2 n (i + 1) (M ++ [r])->s'.sl = s.sl->(∀ j,(j % 1000 == k % 1000) = false->(j == d) = false->s'.rw j = s.rw j)->I x0 s') (h:∀ x s1,I x s1->b (AX.seq (znE I μ (μ x)) Q) s1):zs8 (kk b u) (kk Q w) s:=by
 obtain ⟨s',hw,ht,hsl,ho⟩:=TabP.push hk hl hrow hrest hd hdl hdk hi
 exact ⟨α,I,μ,⟨x0,s',hw,h0 s' ht hsl ho⟩,h⟩
theorem ztC [zae] {M:Mat} {r:List Int} {i:Nat} (h:M.length = i):(M ++ [r]).getD i [] = r:=by rw [zmB,if_neg om,if_pos h.symm]
theorem zx4 {M:Mat} {r r':List Int} {i:Nat} (h:M.length = i):(M ++ [r]).set i r' = M ++ [r']:=by
 subst h;simp
end
section
variable {s:St}
theorem Wk.untab [zae] {k v e:Nat} {c:List PV} (hk:s.rw k = ⟨v,.tab e c⟩) (hc:zbs c):Wk s (s.row k ⟨v,.sli e 1 false c⟩):=by
 intro G a w ⟨E,hs⟩
 have hR:E.R k = ⟨v,.tab e c⟩:=by rw [hs.rw];exact hk
 have ht:OneTurn E w w k ⟨v,.sli e 1 false c⟩ (E.rm k) (E.rv k) :=
  ⟨fun _ _ _=>rfl,fun b hb _=>.inr ⟨hb,by rw [hR];rfl,fun _=>by rw [hR];rfl⟩,by rw [hR];exact Nat.le_refl _,
   fun _ _=>⟨by rw [hR];rfl,rfl⟩,fun _ _=>⟨by rw [hR];rfl,rfl⟩,fun _=>by have:=hs.wok.pos k (by rw [hR];rfl);rw [hR] at this;exact this,Nat.le_refl _,rfl,rfl,⟨rfl,fun _=>by first | exact Nat.le_refl _ | exact Nat.le_succ _⟩⟩
 have hturn:=ht.turn (fz:=[]) hs.wok
 have hrows:=ht.rows (fz:=[]) hs.wok (fun j hj=>by cases hj) (fun hl=>by
  have hrow:=hs.wok.rows k
  unfold zav at hrow ⊢
  rw [hR] at hrow
  simp only [Env.turn,zaf]
  rcases hrow with h | ⟨b,n,cap,vs,rest,h1,h2,h3,h4,h5,h6,h7,h8,h9⟩
  ·exact .inl h
  ·exact .inr ⟨b,n,cap,vs,rest,h1,h2,h3,h4,om,h6,h7,om,zdr hc h9⟩)
 have:=hturn.sim hs hrows
 refine ⟨E.turn [] k ⟨v,.sli e 1 false c⟩ (E.rm k) (E.rv k),?_⟩
 have e:({ s with rw:=(E.turn [] k ⟨v,.sli e 1 false c⟩ (E.rm k) (E.rv k)).R }:St) = s.row k ⟨v,.sli e 1 false c⟩:=by
  have hf:zis E.R [] = E.R:=zgF E.R
  simp only [Env.turn,hf,hs.rw]
  rfl
 rw [e] at this
 exact this
structure TabG (rw:Nat->Row) (k v e e2 n:Nat) (M:Mat):Prop where
 top:rw k = ⟨v,.tab e (zaJ k (List.range n))⟩
 len:M.length = n
 row:∀ j,j < n->rw (sid k j) = ⟨1,.sli e2 1 false (iL (M.getD j []))⟩
 rest:∀ j,n <= j->rw (sid k j) = ⟨0,.dead⟩
variable {rw rw':Nat->Row} {k v e e2 n d vd:Nat} {M:Mat} {r:List Int}
theorem TabG.same (h:TabG rw k v e e2 n M) (h1:rw' k = rw k) (h2:∀ x,rw' (sid k x) = rw (sid k x)):TabG rw' k v e e2 n M :=
 ⟨h1.trans h.top,h.len,fun j hj=>(h2 j).trans (h.row j hj),fun j hj=>(h2 j).trans (h.rest j hj)⟩
theorem TabG.done [zae] (h:TabG rw k v e e2 n M):TabI rw k v e e2 (List.range n) M:=by
 refine ⟨⟨h.top,by simp [h.len],fun j hj=>?_⟩,List.nodup_range⟩
 have hj:j < n:=by simpa using hj
 have e1:(List.range n).getD j 0 = j:=by simp [List.getD,hj]
 rw [e1,zdt];exact h.row j hj
theorem TabG.init [zae] (e2:Nat) (hk:s.rw k = ⟨v,.sli e 1 false []⟩) (hd:∀ j,s.rw (sid k j) = ⟨0,.dead⟩) :
 ∃ s',Wk s s'/\TabG s'.rw k v e e2 0 []/\s'.sl = s.sl/\∀ j,(j % 1000 == k % 1000) = false->s'.rw j = s.rw j:=by
 refine ⟨_,Wk.tab hk (fun p hp=>by cases hp),⟨?_,rfl,fun j hj=>absurd hj om,fun j _=>?_⟩,rfl,fun j hj=>?_⟩
 ·rw [zaA];rfl
 ·rw [zap _ _ _ _ (zfz k j)];exact hd j
 ·have hj:=beq_eq_false_iff_ne.1 hj
  rw [zap _ _ _ _ (fun e=>hj (by rw [e]))]
theorem TabG.push [zae] (hk:s.rw k = ⟨v,.tab e (zaJ k (List.range n) ++ [.own d vd])⟩) (hl:M.length = n) (hrow:∀ j,j < n->s.rw (sid k j) = ⟨1,.sli e2 1 false (iL (M.getD j []))⟩) (hrest:∀ j,n <= j->s.rw (sid k j) = ⟨0,.dead⟩)
 (hd:s.rw d = ⟨vd,.tab e2 (iL r)⟩) (hdl:d < lent) (hdk:(d % 1000 == k % 1000) = false) :
 ∃ s',Wk s s'/\TabG s'.rw k v e e2 (n + 1) (M ++ [r])/\s'.sl = s.sl/\∀ j,(j % 1000 == k % 1000) = false->(j == d) = false->s'.rw j = s.rw j:=by
 have hdk':=beq_eq_false_iff_ne.1 hdk
 have ndk:d ≠ k:=fun e=>hdk' (by rw [e])
 have nds:∀ j,d ≠ sid k j:=fun j e=>hdk' (by rw [e,zdx])
 have w1:Wk s (s.row d ⟨vd,.sli e2 1 false (iL r)⟩):=Wk.untab hd (zaU r)
 have hcs:(zaJ k (List.range (n + 1))).length = (zaJ k (List.range n) ++ [PV.own d vd]).length/\∀ i (a:i < (zaJ k (List.range n) ++ [PV.own d vd]).length) (b:i < (zaJ k (List.range (n + 1))).length),
  (zaJ k (List.range (n + 1)))[i] = (zaJ k (List.range n) ++ [PV.own d vd])[i] \/ ((zaJ k (List.range n) ++ [PV.own d vd])[i] = .own d vd/\(zaJ k (List.range (n + 1)))[i] = .own (sid k n) 1):=by
  refine ⟨by simp [zaq],fun i a b=>?_⟩
  have hi:i < n + 1:=by simpa [zaq] using b
  by_cases h:i < n
  ·refine .inl ?_
   rw [List.getElem_append_left (by simpa [zaq] using h)]
   simp [zaJ]
  ·have:i = n:=om
   subst this
   refine .inr ⟨?_,?_⟩
   ·rw [List.getElem_append_right (by simp [zaq])];simp [zaq]
   ·simp [zaJ]
 have w2:=Wk.ren (s:=s.row d ⟨vd,.sli e2 1 false (iL r)⟩) (d:=d) (k:=k) (k':=sid k n) (v:=vd) (vk:=v) (e:=e2) (et:=e) (sz:=1) (c:=iL r) (cs:=zaJ k (List.range n) ++ [.own d vd]) (cs':=zaJ k (List.range (n + 1)))
  (zaA _ _ _) (by rw [zap _ _ _ _ (Ne.symm ndk)];exact hk) (by rw [zap _ _ _ _ (Ne.symm (nds n))];exact hrest n (Nat.le_refl n)) hdl hcs
 refine ⟨_,w1.trans w2,⟨?_,by simp [hl],fun j hj=>?_,fun j hj=>?_⟩,rfl,fun j hj hj2=>?_⟩
 ·rw [zaA]
 ·rw [zap _ _ _ _ (zfz k j),zmB,hl]
  by_cases e1:j = n
  ·subst e1
   rw [zaA,if_neg om,if_pos rfl]
  ·rw [zap _ _ _ _ (fun h=>e1 (ze7 h)),zap _ _ _ _ (Ne.symm (nds j)),zap _ _ _ _ (Ne.symm (nds j)),if_pos om]
   exact hrow j om
 ·rw [zap _ _ _ _ (zfz k j),zap _ _ _ _ (fun h=>by have:=ze7 h;omega),zap _ _ _ _ (Ne.symm (nds j)),zap _ _ _ _ (Ne.symm (nds j))]
  exact hrest j om
 ·have hj:=beq_eq_false_iff_ne.1 hj
  have hj2:=beq_eq_false_iff_ne.1 hj2
  rw [zap _ _ _ _ (fun e=>hj (by rw [e])),zap _ _ _ _ (fun e=>hj (by rw [e,zdx])),zap _ _ _ _ hj2,zap _ _ _ _ hj2]
variable {Q:AX->St->Prop}
theorem zFu [zae] {α:Type} (hk:s.rw k = ⟨v,.sli e 1 false []⟩) (hd:∀ j,s.rw (sid k j) = ⟨0,.dead⟩) (I:α->St->Prop) (μ:α->Nat) (x0:α) {b:(AX->St->Prop)->St->Prop} {u:Dm b} {w:Dm Q}
 (h0:∀ s',TabG s'.rw k v e e2 0 []->s'.sl = s.sl->(∀ j,(j % 1000 == k % 1000) = false->s'.rw j = s.rw j)->I x0 s') (h:∀ x s1,I x s1->b (AX.seq (znE I μ (μ x)) Q) s1):zs8 (kk b u) (kk Q w) s:=by
 obtain ⟨s',hw,ht,hsl,ho⟩:=TabG.init e2 hk hd
 exact ⟨α,I,μ,⟨x0,s',hw,h0 s' ht hsl ho⟩,h⟩
theorem zzh [zae] {α:Type} {I:α->St->Prop} {μ:α->Nat} {m:Nat} (hk:s.rw k = ⟨v,.tab e (zaJ k (List.range n) ++ [.own d vd])⟩) (hl:M.length = n) (hrow:∀ j,j < n->s.rw (sid k j) = ⟨1,.sli e2 1 false (iL (M.getD j []))⟩) (hrest:∀ j,n <= j->s.rw (sid k j) = ⟨0,.dead⟩)
 (hd:s.rw d = ⟨vd,.tab e2 (iL r)⟩) (hdl:d < lent) (hdk:(d % 1000 == k % 1000) = false) (x':α)
 (h0:∀ s',TabG s'.rw k v e e2 (n + 1) (M ++ [r])->s'.sl = s.sl->(∀ j,(j % 1000 == k % 1000) = false->(j == d) = false->s'.rw j = s.rw j)->I x' s') (hm:μ x' < m):znE I μ m s:=by
 obtain ⟨s',hw,ht,hsl,ho⟩:=TabG.push hk hl hrow hrest hd hdl hdk
 exact ⟨x',s',hw,h0 s' ht hsl ho,hm⟩
end
theorem zzi [zae] {s:St} {k v e e2 i:Nat} {p:List Nat} {rows:List (List PV)} (hn:p.Nodup) (h:i < p.length):(s.tabbed k v e e2 p rows).rw (sid k (p.getD i 0)) = ⟨1,.sli e2 1 false (rows.getD i [])⟩:=zir hn h
theorem zmE [zae] {k d:Nat} {q:List Nat} (hq:q.Nodup) (hd:∀ j ∈ q,d ≠ sid k j) (hdk:d ≠ k):(k :: q.map (sid k) ++ [d]).Nodup:=by
 rw [List.cons_append,List.nodup_cons,List.nodup_append]
 refine ⟨fun h=>?_,List.Pairwise.map _ (fun a b hab=>by rw [Ne,zhr];exact hab) hq,List.nodup_cons.2 ⟨sp,List.nodup_nil⟩,fun a ha b hb=>?_⟩
 ·rcases List.mem_append.1 h with h | h
  ·obtain ⟨j,_,hj⟩:=List.mem_map.1 h
   exact zfz k j hj
  ·exact hdk (List.mem_singleton.1 h).symm
 ·obtain ⟨j,hj,rfl⟩:=List.mem_map.1 ha
  rw [List.mem_singleton.1 hb]
  exact (hd j hj).symm
section
variable {s:St} {rw rw':Nat->Row} {k v e e2 n d vd:Nat} {M:Mat} {r:List Int}
end
theorem AC.flat [zae] {P:Program} {f:FuncId} {args:List PV} {e e2:Nat} {rows:List (List PV)} (h:AC P f args (.tb e e2 rows)):AC P f args (.fr e 1 (rows.map fun r=>.sl false 1 r)):=by
 refine ⟨h.1,fun w vals hp hv=>(h.2 w vals hp hv).mono fun en w' ⟨v,lv,he,hx,hout,hn⟩=>?_⟩
 cases hout with
 | tbn=>exact ⟨_,_,he,hx,.nil,by simp [blk]⟩
 | @tb _ _ b n cap _ vs rest lvs hB hh hnn hc hm hl h1 h2 hvv hin =>
   refine ⟨_,[(.slice (some ⟨b,0,none⟩) n cap,some b)],he,hx,.fr hB hh om hc hm om ⟨by simp [h1,hnn],fun i a b'=>?_⟩,by simp [blk]⟩
   have hi:i < rows.length:=by simpa using a
   have h0:=hin i hi b' om
   simp only [List.getElem_map]
   have hbl:blk ((Value.slice (some ⟨b,0,none⟩) n cap,some b) :: lvs) = b :: blk lvs:=rfl
   have e1:blk [(Value.slice (some ⟨b,0,none⟩) n cap,some b)] = [b]:=rfl
   rw [e1]
   rw [hbl] at hn h0
   generalize hri:rows[i] = ri at *
   generalize hvi:vs[i] = vi at *
   generalize hli:lvs[i]'om = li at *
   cases h0 with
   | nil=>exact zex _ _ _ _ _
   | @fr _ _ b2 n2 cap2 _ vs2 rest2 hB2 hh2 hn2 hc2 hm2 hl2 hr2 =>
     have hb2:b2 ∈ blk lvs:=by
      simp only [blk,List.mem_filterMap]
      exact ⟨_,List.getElem_mem (by omega:i < lvs.length),by rw [hli]⟩
     have hne:b2 ≠ b:=fun e=>(List.nodup_cons.1 hn).1 (e ▸ hb2)
     have hB3:w.heap.size <= b2:=hB2
     refine .sl (fun j=>vs2.getD j undef) (hr2.1.trans hn2) hc2 hm2 (fun j hj=>⟨b2,0,rfl,?_,fun hL=>?_,?_⟩) (fun j hj=>?_)
     ·show max w.heap.size (if false = true then _ else 0) <= b2
      simp;exact hB3
     ·rcases hL with hL | hL
      ·have:b2 < w.heap.size:=hL
       omega
      ·exact hne (List.mem_singleton.1 hL)
     ·have hj':j < vs2.length:=by rw [<- hr2.1];exact hj
      rw [Nat.zero_add,zaL hh2 (by simp;omega)]
      simp [List.getElem_append_left hj',List.getD,hj']
     ·have hj':j < vs2.length:=by rw [<- hr2.1];exact hj
      have e2':vs2.getD j undef = vs2[j]:=by simp [List.getD,hj']
      rw [e2']
      have h3:=hr2.2 j hj hj'
      have h4:Rep w' (Env.out w.heap.size [b]).bare.bare w.heap.size ri[j] vs2[j]:=by
       refine Rep.above (E:=(Env.out w.heap.size (b :: blk lvs)).bare) h3 (fun _=>rfl) (fun _=>rfl) rfl rfl fun x hx' hL hL'=>?_
       rcases hL' with hL' | hL'
       ·exact hL (.inl hL')
       ·exact hL (.inr (by rw [List.mem_singleton.1 hL'];exact List.mem_cons_self))
      refine h4.low ?_
      show max w.heap.size (if false = true then _ else 0) <= w.heap.size
      simp
end Go.Abs
