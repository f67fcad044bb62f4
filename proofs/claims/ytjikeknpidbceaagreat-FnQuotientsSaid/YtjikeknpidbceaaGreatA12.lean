/- DERIVED by an AI agent. -/
import Derived.Test.YtjikeknpidbceaaGreatA11
/- DERIVED by an AI agent. The rules in heaps. No program in sight. -/
namespace Go.Abs
theorem ai {a b:Prop} (h:a) (k:b):a∧b:=⟨h,k⟩
theorem gp0:type_of% (ai @zEu <| ai @zEv <| ai @zEw <| ai @zEx <| ai @zEy <| ai @zEz <| ai @zEA <| ai @zEB <| ai @zrX <| ai @zhq <| ai @zhr <| ai @zwj <| ai @zrY <| ai @znE <| ai @zrZ <| @zr0):=ai @zEu <| ai @zEv <| ai @zEw <| ai @zEx <| ai @zEy <| ai @zEz <| ai @zEA <| ai @zEB <| ai @zrX <| ai @zhq <| ai @zhr <| ai @zwj <| ai @zrY <| ai @znE <| ai @zrZ <| @zr0
theorem gp1:type_of% (ai @zwk <| ai @znF <| ai @zr1 <| ai @zwl <| ai @zr2 <| ai @zr3 <| ai @zwm <| ai @zf5 <| ai @ziD <| ai @zr4 <| ai @znG <| ai @zr5 <| ai @znJ <| ai @znM <| ai @zkS <| @zkT):=ai @zwk <| ai @znF <| ai @zr1 <| ai @zwl <| ai @zr2 <| ai @zr3 <| ai @zwm <| ai @zf5 <| ai @ziD <| ai @zr4 <| ai @znG <| ai @zr5 <| ai @znJ <| ai @znM <| ai @zkS <| @zkT
theorem gp2:type_of% (ai @ziF <| ai @zsn <| ai @zfo <| ai @zfp <| ai @zex <| ai @zdD <| ai @zfq <| ai @zfr <| ai @zso <| ai @zwC <| ai @zBI <| ai @ziJ <| ai @zsp <| ai @zf7 <| ai @ziK <| @zf8):=ai @ziF <| ai @zsn <| ai @zfo <| ai @zfp <| ai @zex <| ai @zdD <| ai @zfq <| ai @zfr <| ai @zso <| ai @zwC <| ai @zBI <| ai @ziJ <| ai @zsp <| ai @zf7 <| ai @ziK <| @zf8
theorem gp3:type_of% (ai @znV <| ai @ziL <| ai @zhs <| ai @zht <| ai @zwD <| ai @zwE <| ai @zwF <| ai @zk1 <| ai @znY <| ai @zfs <| ai @znZ <| ai @zlf <| ai @zk9 <| ai @zlb <| ai @zla <| @zn0):=ai @znV <| ai @ziL <| ai @zhs <| ai @zht <| ai @zwD <| ai @zwE <| ai @zwF <| ai @zk1 <| ai @znY <| ai @zfs <| ai @znZ <| ai @zlf <| ai @zk9 <| ai @zlb <| ai @zla <| @zn0
theorem gp4:type_of% (ai @zwH <| ai @zft <| ai @zn3 <| ai @zsx <| ai @zn6 <| ai @zti <| ai @zoV <| ai @ztj <| ai @zlF <| ai @ziO <| ai @ziP <| ai @zsz <| ai @zk8 <| ai @zsA <| ai @zBM <| @ziQ):=ai @zwH <| ai @zft <| ai @zn3 <| ai @zsx <| ai @zn6 <| ai @zti <| ai @zoV <| ai @ztj <| ai @zlF <| ai @ziO <| ai @ziP <| ai @zsz <| ai @zk8 <| ai @zsA <| ai @zBM <| @ziQ
theorem gp5:type_of% (ai @zsB <| ai @zge <| ai @zod <| ai @zgf <| ai @zoe <| ai @ziR <| ai @zhu <| ai @zhv <| ai @zof <| ai @zwN <| ai @zon <| ai @zoo <| ai @zsI <| ai @zop <| ai @ziX <| @ziY):=ai @zsB <| ai @zge <| ai @zod <| ai @zgf <| ai @zoe <| ai @ziR <| ai @zhu <| ai @zhv <| ai @zof <| ai @zwN <| ai @zon <| ai @zoo <| ai @zsI <| ai @zop <| ai @ziX <| @ziY
theorem gp6:type_of% (ai @zhw <| ai @zfu <| ai @zoa <| ai @ztB <| ai @zo8 <| ai @ztC <| ai @zpa <| ai @zo9 <| ai @ztD <| ai @ztz <| ai @zo6 <| ai @ztE <| ai @zpd <| ai @zpe <| ai @zlK <| @zxM):=ai @zhw <| ai @zfu <| ai @zoa <| ai @ztB <| ai @zo8 <| ai @ztC <| ai @zpa <| ai @zo9 <| ai @ztD <| ai @ztz <| ai @zo6 <| ai @ztE <| ai @zpd <| ai @zpe <| ai @zlK <| @zxM
theorem gp7:type_of% (ai @ztA <| ai @zo7 <| ai @zwT <| ai @zoq <| ai @zwU <| ai @zBR <| ai @zEJ <| ai @zli <| ai @zwV <| ai @zhx <| ai @zsJ <| ai @zhy <| ai @zsK <| ai @zlj <| ai @ziZ <| @zi0):=ai @ztA <| ai @zo7 <| ai @zwT <| ai @zoq <| ai @zwU <| ai @zBR <| ai @zEJ <| ai @zli <| ai @zwV <| ai @zhx <| ai @zsJ <| ai @zhy <| ai @zsK <| ai @zlj <| ai @ziZ <| @zi0
theorem gp8:type_of% (ai @zBS <| ai @zBT <| ai @zBU <| ai @zor <| ai @zos <| ai @zov <| ai @zsL <| ai @zwW <| ai @zBV <| ai @zou <| ai @zi1 <| ai @zow <| ai @zsM <| ai @zwX <| ai @zhz <| @zox):=ai @zBS <| ai @zBT <| ai @zBU <| ai @zor <| ai @zos <| ai @zov <| ai @zsL <| ai @zwW <| ai @zBV <| ai @zou <| ai @zi1 <| ai @zow <| ai @zsM <| ai @zwX <| ai @zhz <| @zox
theorem gp9:type_of% (ai @zsN <| ai @zBW <| ai @zgg <| ai @zsO <| ai @zwY <| @zz9):=ai @zsN <| ai @zBW <| ai @zgg <| ai @zsO <| ai @zwY <| @zz9
theorem gp:type_of% (ai @gp0 <| ai @gp1 <| ai @gp2 <| ai @gp3 <| ai @gp4 <| ai @gp5 <| ai @gp6 <| ai @gp7 <| ai @gp8 <| @gp9):=ai @gp0 <| ai @gp1 <| ai @gp2 <| ai @gp3 <| ai @gp4 <| ai @gp5 <| ai @gp6 <| ai @gp7 <| ai @gp8 <| @gp9
theorem gq0:type_of% (ai @zEt <| ai @zBw <| ai @zwf <| ai @zwg <| ai @zrV <| ai @zBx <| ai @zwh <| ai @zwi <| ai @zrW <| ai @zaA <| ai @zaU <| ai @zh9 <| ai @zew <| ai @zrR <| ai @zaE <| @zao):=ai @zEt <| ai @zBw <| ai @zwf <| ai @zwg <| ai @zrV <| ai @zBx <| ai @zwh <| ai @zwi <| ai @zrW <| ai @zaA <| ai @zaU <| ai @zh9 <| ai @zew <| ai @zrR <| ai @zaE <| @zao
theorem gq1:type_of% (ai @zf0 <| ai @zf1 <| ai @zml <| ai @zrS <| ai @zwe <| ai @zrT <| ai @zmm <| ai @zf2 <| ai @zrU <| ai @zBv <| ai @zmn <| ai @zmo <| ai @zf3 <| ai @zf4 <| ai @zia <| @zib):=ai @zf0 <| ai @zf1 <| ai @zml <| ai @zrS <| ai @zwe <| ai @zrT <| ai @zmm <| ai @zf2 <| ai @zrU <| ai @zBv <| ai @zmn <| ai @zmo <| ai @zf3 <| ai @zf4 <| ai @zia <| @zib
theorem gq2:type_of% (ai @zic <| ai @zkR <| ai @zBy <| ai @zBz <| ai @zBA <| ai @zBB <| ai @zww <| ai @znK <| ai @zr9 <| ai @znL <| ai @zBE <| ai @getElem?_zero <| ai @getElem?_succ <| ai @znN <| ai @zwZ <| @zw0):=ai @zic <| ai @zkR <| ai @zBy <| ai @zBz <| ai @zBA <| ai @zBB <| ai @zww <| ai @znK <| ai @zr9 <| ai @znL <| ai @zBE <| ai @getElem?_zero <| ai @getElem?_succ <| ai @znN <| ai @zwZ <| @zw0
theorem gq3:type_of% (ai @zw1 <| ai @zw2 <| ai @zw3 <| ai @zw4 <| ai @zBX <| ai @zw5 <| ai @zlk <| ai @zw6 <| ai @zw7 <| ai @zw8 <| ai @zw9 <| ai @zxa <| ai @zxb <| ai @zxc <| ai @zxd <| @zi2):=ai @zw1 <| ai @zw2 <| ai @zw3 <| ai @zw4 <| ai @zBX <| ai @zw5 <| ai @zlk <| ai @zw6 <| ai @zw7 <| ai @zw8 <| ai @zw9 <| ai @zxa <| ai @zxb <| ai @zxc <| ai @zxd <| @zi2
theorem gq4:type_of% (ai @zi3 <| ai @zi4 <| ai @zhA <| ai @zhB <| ai @zBY <| ai @zBZ <| ai @zsP <| ai @zxe <| ai @zll <| ai @zln <| ai @zlm <| ai @zB0 <| ai @zxf <| ai @zB1 <| ai @zxg <| @zlo):=ai @zi3 <| ai @zi4 <| ai @zhA <| ai @zhB <| ai @zBY <| ai @zBZ <| ai @zsP <| ai @zxe <| ai @zll <| ai @zln <| ai @zlm <| ai @zB0 <| ai @zxf <| ai @zB1 <| ai @zxg <| @zlo
theorem gq5:type_of% (ai @zlp <| ai @zlq <| ai @zEL <| ai @zEM <| ai @zB2 <| ai @zxi <| ai @zB3 <| ai @zoz <| ai @zoy <| ai @zEN <| ai @zEO <| ai @zEP <| ai @zEQ <| ai @zB5 <| ai @zER <| @zES):=ai @zlp <| ai @zlq <| ai @zEL <| ai @zEM <| ai @zB2 <| ai @zxi <| ai @zB3 <| ai @zoz <| ai @zoy <| ai @zEN <| ai @zEO <| ai @zEP <| ai @zEQ <| ai @zB5 <| ai @zER <| @zES
theorem gq6:type_of% (ai @zET <| ai @zEU <| ai @zxj <| ai @List.drop_succ_cons.{0} <| ai @List.drop_zero.{0} <| ai @List.take_succ_cons.{0} <| ai @List.take_zero.{0} <| ai @zuB <| ai @zB4 <| ai @zsQ <| ai @zsS <| ai @zey <| ai @zgh <| ai @zoA <| ai @zoB <| @zsT):=ai @zET <| ai @zEU <| ai @zxj <| ai @List.drop_succ_cons.{0} <| ai @List.drop_zero.{0} <| ai @List.take_succ_cons.{0} <| ai @List.take_zero.{0} <| ai @zuB <| ai @zB4 <| ai @zsQ <| ai @zsS <| ai @zey <| ai @zgh <| ai @zoA <| ai @zoB <| @zsT
theorem gq7:type_of% (ai @zsU <| ai @zi6 <| ai @zoC <| ai @zlr <| ai @zoD <| ai @zls <| ai @zsV <| ai @zoE <| ai @zsW <| ai @zoF <| ai @zsX <| ai @zB6 <| ai @zsY <| ai @zsZ <| ai @zv7 <| @zv6):=ai @zsU <| ai @zi6 <| ai @zoC <| ai @zlr <| ai @zoD <| ai @zls <| ai @zsV <| ai @zoE <| ai @zsW <| ai @zoF <| ai @zsX <| ai @zB6 <| ai @zsY <| ai @zsZ <| ai @zv7 <| @zv6
theorem gq8:type_of% (ai @zv9 <| ai @zv8 <| ai @zrP <| ai @zrO <| ai @zlt <| ai @zlu <| ai @zxo <| ai @zmu <| ai @zs6 <| ai @zoH <| ai @zoI <| ai @zlw <| ai @zlx <| ai @zoJ <| ai @zB8 <| @zxp):=ai @zv9 <| ai @zv8 <| ai @zrP <| ai @zrO <| ai @zlt <| ai @zlu <| ai @zxo <| ai @zmu <| ai @zs6 <| ai @zoH <| ai @zoI <| ai @zlw <| ai @zlx <| ai @zoJ <| ai @zB8 <| @zxp
theorem gq9:type_of% (ai @zxq <| ai @zs7 <| ai @zi9 <| ai @zja <| ai @zs9 <| ai @zoM <| ai @zoL <| ai @zly <| ai @zlz <| ai @zlA <| ai @zlB <| ai @zxr <| ai @zs8 <| ai @zoK <| ai @zB9 <| @zxs):=ai @zxq <| ai @zs7 <| ai @zi9 <| ai @zja <| ai @zs9 <| ai @zoM <| ai @zoL <| ai @zly <| ai @zlz <| ai @zlA <| ai @zlB <| ai @zxr <| ai @zs8 <| ai @zoK <| ai @zB9 <| @zxs
theorem zHA:type_of% (ai @zoN <| ai @zta <| ai @zmv <| ai @ztb <| ai @List.length_cons.{0} <| ai @List.length_nil.{0} <| ai @List.not_mem_nil.{0} <| ai @List.mem_cons.{0} <| ai @or_false <| ai @zoO <| ai @ztc <| ai @zk3 <| ai @ztd <| ai @zte <| ai @zlC <| @zlD):=ai @zoN <| ai @zta <| ai @zmv <| ai @ztb <| ai @List.length_cons.{0} <| ai @List.length_nil.{0} <| ai @List.not_mem_nil.{0} <| ai @List.mem_cons.{0} <| ai @or_false <| ai @zoO <| ai @ztc <| ai @zk3 <| ai @ztd <| ai @zte <| ai @zlC <| @zlD
theorem zHB:type_of% (ai @zxu <| ai @zxv <| ai @zxw <| ai @ztf <| ai @zEX <| ai @zxC <| ai @zlE <| ai @zdp <| ai @zii <| ai @zoY <| ai @zoZ <| ai @zo0 <| ai @zo1 <| ai @zo2 <| ai @imm_ag <| @imm_tup):=ai @zxu <| ai @zxv <| ai @zxw <| ai @ztf <| ai @zEX <| ai @zxC <| ai @zlE <| ai @zdp <| ai @zii <| ai @zoY <| ai @zoZ <| ai @zo0 <| ai @zo1 <| ai @zo2 <| ai @imm_ag <| @imm_tup
theorem zHC:type_of% (ai @zxD <| ai @ztp <| ai @zxE <| ai @ztq <| ai @zo3 <| ai @zCa <| ai @zCb <| ai @zlI <| ai @ztr <| ai @zts <| ai @zCc <| ai @zCd <| ai @ztt <| ai @zo4 <| ai @zjd <| @ztu):=ai @zxD <| ai @ztp <| ai @zxE <| ai @ztq <| ai @zo3 <| ai @zCa <| ai @zCb <| ai @zlI <| ai @ztr <| ai @zts <| ai @zCc <| ai @zCd <| ai @ztt <| ai @zo4 <| ai @zjd <| @ztu
theorem zHD:type_of% (ai @zxF <| ai @zxG <| ai @ztw <| ai @ztx <| ai @zji <| ai @zjh <| ai @zjj <| ai @znW <| ai @zk2 <| ai @zwI <| ai @zsv <| ai @zBJ <| ai @zsq <| ai @zss <| ai @zwK <| @zn5):=ai @zxF <| ai @zxG <| ai @ztw <| ai @ztx <| ai @zji <| ai @zjh <| ai @zjj <| ai @znW <| ai @zk2 <| ai @zwI <| ai @zsv <| ai @zBJ <| ai @zsq <| ai @zss <| ai @zwK <| @zn5
theorem zHE:type_of% (ai @zn4 <| ai @zk0 <| ai @znw <| ai @znx <| ai @zny <| ai @znz <| ai @zgR <| ai @znA <| ai @zv3 <| ai @zv5 <| ai @znC <| ai @zmk <| ai @zkP <| ai @znB <| ai @zv4 <| @zBn):=ai @zn4 <| ai @zk0 <| ai @znw <| ai @znx <| ai @zny <| ai @znz <| ai @zgR <| ai @znA <| ai @zv3 <| ai @zv5 <| ai @znC <| ai @zmk <| ai @zkP <| ai @znB <| ai @zv4 <| @zBn
theorem zHF:type_of% (ai @zBo <| ai @zBp <| ai @zBq <| ai @zBr <| ai @zBs <| ai @zwa <| ai @zBt <| ai @zBm <| ai @zBu <| ai @zwb <| ai @zeu <| ai @zev <| ai @zwd <| ai @zrQ <| ai @zkQ <| @znD):=ai @zBo <| ai @zBp <| ai @zBq <| ai @zBr <| ai @zBs <| ai @zwa <| ai @zBt <| ai @zBm <| ai @zBu <| ai @zwb <| ai @zeu <| ai @zev <| ai @zwd <| ai @zrQ <| ai @zkQ <| @znD
theorem zHG:type_of% (ai @List.map_nil.{0,0} <| ai @List.map_cons.{0,0} <| ai @List.append_nil.{0} <| ai @List.nil_append.{0} <| ai @List.cons_append.{0} <| ai @List.getElem?_cons_zero.{0} <| ai @List.getElem?_cons_succ.{0} <| ai @ne_eq.{1} <| ai @not_false_eq_true <| ai @not_true_eq_false <| ai @true_and <| ai @and_true <| ai @false_and <| ai @and_false <| ai @and_self <| @true_implies):=ai @List.map_nil.{0,0} <| ai @List.map_cons.{0,0} <| ai @List.append_nil.{0} <| ai @List.nil_append.{0} <| ai @List.cons_append.{0} <| ai @List.getElem?_cons_zero.{0} <| ai @List.getElem?_cons_succ.{0} <| ai @ne_eq.{1} <| ai @not_false_eq_true <| ai @not_true_eq_false <| ai @true_and <| ai @and_true <| ai @false_and <| ai @and_false <| ai @and_self <| @true_implies
theorem zHH:type_of% (ai @Bool.not_true <| ai @Bool.not_false <| ai @eq_self.{1} <| ai @Bool.true_eq_false <| ai @Bool.false_eq_true <| ai @false_implies <| ai @implies_true.{0} <| ai @implies_true.{1} <| ai @zxB <| ai @Int.le_refl <| ai @Nat.le_refl <| ai @Int.toNat_natCast <| ai @Int.natCast_nonneg <| ai @Int.ofNat_lt <| ai @Int.ofNat_le <| @PV.v.injEq):=ai @Bool.not_true <| ai @Bool.not_false <| ai @eq_self.{1} <| ai @Bool.true_eq_false <| ai @Bool.false_eq_true <| ai @false_implies <| ai @implies_true.{0} <| ai @implies_true.{1} <| ai @zxB <| ai @Int.le_refl <| ai @Nat.le_refl <| ai @Int.toNat_natCast <| ai @Int.natCast_nonneg <| ai @Int.ofNat_lt <| ai @Int.ofNat_le <| @PV.v.injEq
theorem zHI:type_of% (ai @Value.bool.injEq <| ai @Value.int.injEq <| ai @Value.string.injEq <| ai @List.nodup_nil.{0} <| ai @zoS <| ai @zoT <| ai @beq_self_eq_true.{0} <| ai @decide_eq_true_eq <| ai @decide_eq_false_iff_not <| ai @zsy <| ai @zn7 <| ai @ziN <| ai @zk6 <| ai @ziM <| ai @zn8 <| @zk7):=ai @Value.bool.injEq <| ai @Value.int.injEq <| ai @Value.string.injEq <| ai @List.nodup_nil.{0} <| ai @zoS <| ai @zoT <| ai @beq_self_eq_true.{0} <| ai @decide_eq_true_eq <| ai @decide_eq_false_iff_not <| ai @zsy <| ai @zn7 <| ai @ziN <| ai @zk6 <| ai @ziM <| ai @zn8 <| @zk7
theorem zHJ:type_of% (ai @zn9 <| ai @zBL <| ai @zwM <| ai @zob <| ai @zoc <| ai @zst <| ai @znX <| ai @zik <| ai @zil <| ai @zty <| ai @zAg <| ai @zAh <| ai @zxJ <| ai @zxK <| ai @zmy <| @zmz):=ai @zn9 <| ai @zBL <| ai @zwM <| ai @zob <| ai @zoc <| ai @zst <| ai @znX <| ai @zik <| ai @zil <| ai @zty <| ai @zAg <| ai @zAh <| ai @zxJ <| ai @zxK <| ai @zmy <| @zmz
theorem zHK:type_of% (ai @ztk <| ai @ztl <| ai @zoW <| ai @ztm <| ai @ztn <| ai @zto <| ai @zlH <| ai @zlG <| ai @zoX <| ai @zn1 <| ai @zk4 <| ai @zn2 <| ai @zk5 <| ai @if_true.{1} <| ai @if_false.{1} <| @Nat.zero_le):=ai @ztk <| ai @ztl <| ai @zoW <| ai @ztm <| ai @ztn <| ai @zto <| ai @zlH <| ai @zlG <| ai @zoX <| ai @zn1 <| ai @zk4 <| ai @zn2 <| ai @zk5 <| ai @if_true.{1} <| ai @if_false.{1} <| @Nat.zero_le
theorem zHL:type_of% (ai @Bool.true_and <| ai @Bool.and_true <| ai @Bool.and_self <| ai @zmp <| ai @zmq <| ai @zmr <| ai @zid <| ai @zsw <| ai @zie <| ai @zif <| ai @zig <| ai @zih <| ai @zf9 <| ai @zga <| ai @zgb <| @zgc):=ai @Bool.true_and <| ai @Bool.and_true <| ai @Bool.and_self <| ai @zmp <| ai @zmq <| ai @zmr <| ai @zid <| ai @zsw <| ai @zie <| ai @zif <| ai @zig <| ai @zih <| ai @zf9 <| ai @zga <| ai @zgb <| @zgc
theorem zHM:type_of% (ai @znH <| ai @zEC <| ai @zED <| ai @zsa <| ai @zBF <| ai @zwx <| ai @znO <| ai @zsb <| ai @zsc <| ai @znP <| ai @zsd <| ai @zse <| ai @zwy <| ai @zsf <| ai @zBG <| @zwz):=ai @znH <| ai @zEC <| ai @zED <| ai @zsa <| ai @zBF <| ai @zwx <| ai @znO <| ai @zsb <| ai @zsc <| ai @znP <| ai @zsd <| ai @zse <| ai @zwy <| ai @zsf <| ai @zBG <| @zwz
theorem zHN:type_of% (ai @znQ <| ai @zsg <| ai @zsh <| ai @zsi <| ai @zsj <| ai @znR <| ai @zBH <| ai @zwA <| ai @znS <| ai @znT <| ai @zsk <| ai @zkU <| ai @zkV <| ai @zkW <| ai @zwB <| @zsl):=ai @znQ <| ai @zsg <| ai @zsh <| ai @zsi <| ai @zsj <| ai @znR <| ai @zBH <| ai @zwA <| ai @znS <| ai @znT <| ai @zsk <| ai @zkU <| ai @zkV <| ai @zkW <| ai @zwB <| @zsl
theorem zHO:type_of% (ai @zsm <| ai @zkX <| ai @zkY <| ai @zkZ <| ai @zBC <| ai @zwo <| ai @zwp <| ai @zr6 <| ai @zr7 <| ai @znI <| ai @zwq <| ai @zr8 <| ai @zwr <| ai @zBD <| ai @zws <| @zwt):=ai @zsm <| ai @zkX <| ai @zkY <| ai @zkZ <| ai @zBC <| ai @zwo <| ai @zwp <| ai @zr6 <| ai @zr7 <| ai @znI <| ai @zwq <| ai @zr8 <| ai @zwr <| ai @zBD <| ai @zws <| @zwt
theorem zHP:type_of% (ai @zwu <| ai @zwv <| ai @Bool.or_false <| ai @Bool.false_or <| ai @Bool.or_self <| ai @Bool.or_true <| ai @Bool.true_or <| ai @Bool.false_and <| ai @Bool.and_false <| ai @zs0 <| ai @zxk <| ai @zs1 <| ai @zs2 <| ai @zs3 <| ai @zxl <| @zlv):=ai @zwu <| ai @zwv <| ai @Bool.or_false <| ai @Bool.false_or <| ai @Bool.or_self <| ai @Bool.or_true <| ai @Bool.true_or <| ai @Bool.false_and <| ai @Bool.and_false <| ai @zs0 <| ai @zxk <| ai @zs1 <| ai @zs2 <| ai @zs3 <| ai @zxl <| @zlv
theorem zHQ:type_of% (ai @zxm <| ai @zB7 <| ai @zs5 <| ai @zi7 <| ai @zoG <| ai @zoP <| ai @zoQ <| ai @zoR <| ai @ztg <| ai @zxx <| ai @zxy <| ai @zxz <| ai @zxA <| ai @zth <| ai @zo5 <| @ztv):=ai @zxm <| ai @zB7 <| ai @zs5 <| ai @zi7 <| ai @zoG <| ai @zoP <| ai @zoQ <| ai @zoR <| ai @ztg <| ai @zxx <| ai @zxy <| ai @zxz <| ai @zxA <| ai @zth <| ai @zo5 <| @ztv
theorem zHR:type_of% (ai @zjf <| ai @zjg <| ai @zBO <| ai @zwO <| ai @zwP <| ai @zog <| ai @zsC <| ai @zsE <| ai @zld <| ai @zlc <| ai @zle <| ai @ziT <| ai @ziS <| ai @zsF <| ai @zwQ <| @zlg):=ai @zjf <| ai @zjg <| ai @zBO <| ai @zwO <| ai @zwP <| ai @zog <| ai @zsC <| ai @zsE <| ai @zld <| ai @zlc <| ai @zle <| ai @ziT <| ai @ziS <| ai @zsF <| ai @zwQ <| @zlg
theorem zHS:type_of% (ai @zsG <| ai @zoh <| ai @zoi <| ai @zBQ <| ai @zwS <| ai @zsH <| ai @ziU <| ai @ziV <| ai @ziW <| ai @zoj <| ai @zol <| ai @zom <| ai @zlh <| ai @zjl <| ai @zFG <| @zAi):=ai @zsG <| ai @zoh <| ai @zoi <| ai @zBQ <| ai @zwS <| ai @zsH <| ai @ziU <| ai @ziV <| ai @ziW <| ai @zoj <| ai @zol <| ai @zom <| ai @zlh <| ai @zjl <| ai @zFG <| @zAi
theorem zHT:type_of% (ai @zan <| ai @zgi <| ai @zeZ <| ai @zgj <| ai @zpb <| ai @zlJ <| ai @zxL <| ai @zpc <| ai @zim <| ai @zin <| ai @zmA <| ai @zdR <| ai @zgk <| ai @zdS <| ai @zgl <| @zdE):=ai @zan <| ai @zgi <| ai @zeZ <| ai @zgj <| ai @zpb <| ai @zlJ <| ai @zxL <| ai @zpc <| ai @zim <| ai @zin <| ai @zmA <| ai @zdR <| ai @zgk <| ai @zdS <| ai @zgl <| @zdE
theorem zHU:type_of% (ai @List.length_set.{0} <| ai @List.length_range <| ai @zgm <| ai @zgn <| ai @ziI <| ai @znU <| ai @zjn <| @zCe):=ai @List.length_set.{0} <| ai @List.length_range <| ai @zgm <| ai @zgn <| ai @ziI <| ai @znU <| ai @zjn <| @zCe
theorem gq:type_of% (ai @gq0 <| ai @gq1 <| ai @gq2 <| ai @gq3 <| ai @gq4 <| ai @gq5 <| ai @gq6 <| ai @gq7 <| ai @gq8 <| ai @gq9 <| ai @zHA <| ai @zHB <| ai @zHC <| ai @zHD <| ai @zHE <| ai @zHF <| ai @zHG <| ai @zHH <| ai @zHI <| ai @zHJ <| ai @zHK <| ai @zHL <| ai @zHM <| ai @zHN <| ai @zHO <| ai @zHP <| ai @zHQ <| ai @zHR <| ai @zHS <| ai @zHT <| @zHU):=ai @gq0 <| ai @gq1 <| ai @gq2 <| ai @gq3 <| ai @gq4 <| ai @gq5 <| ai @gq6 <| ai @gq7 <| ai @gq8 <| ai @gq9 <| ai @zHA <| ai @zHB <| ai @zHC <| ai @zHD <| ai @zHE <| ai @zHF <| ai @zHG <| ai @zHH <| ai @zHI <| ai @zHJ <| ai @zHK <| ai @zHL <| ai @zHM <| ai @zHN <| ai @zHO <| ai @zHP <| ai @zHQ <| ai @zHR <| ai @zHS <| ai @zHT <| @zHU
theorem gr0:type_of% (ai @zaA <| ai @zaU <| ai @zh9 <| ai @zew <| ai @zrR <| ai @zaE <| ai @zao <| ai @zf0 <| ai @zf1 <| ai @zml <| ai @zib <| ai @zic <| ai @zdp <| ai @zii <| ai @zmn <| @zmo):=ai @zaA <| ai @zaU <| ai @zh9 <| ai @zew <| ai @zrR <| ai @zaE <| ai @zao <| ai @zf0 <| ai @zf1 <| ai @zml <| ai @zib <| ai @zic <| ai @zdp <| ai @zii <| ai @zmn <| @zmo
theorem gr1:type_of% (ai @zf3 <| ai @zf4 <| ai @zia <| ai @zrS <| ai @zrT <| ai @zmm <| ai @zf2 <| ai @ne_eq.{1} <| ai @not_false_eq_true <| ai @not_true_eq_false <| ai @List.mem_cons.{0} <| ai @List.not_mem_nil.{0} <| ai @or_false <| ai @if_true.{1} <| ai @if_false.{1} <| @zik):=ai @zf3 <| ai @zf4 <| ai @zia <| ai @zrS <| ai @zrT <| ai @zmm <| ai @zf2 <| ai @ne_eq.{1} <| ai @not_false_eq_true <| ai @not_true_eq_false <| ai @List.mem_cons.{0} <| ai @List.not_mem_nil.{0} <| ai @or_false <| ai @if_true.{1} <| ai @if_false.{1} <| @zik
theorem gr2:type_of% (ai @zil <| ai @zty <| ai @zAg <| ai @zAh <| ai @zmy <| ai @zmz <| ai @List.nil_append.{0} <| ai @List.cons_append.{0} <| ai @List.append_nil.{0} <| ai @zmp <| ai @zmq <| ai @zmr <| ai @zid <| ai @zsw <| ai @zie <| @zif):=ai @zil <| ai @zty <| ai @zAg <| ai @zAh <| ai @zmy <| ai @zmz <| ai @List.nil_append.{0} <| ai @List.cons_append.{0} <| ai @List.append_nil.{0} <| ai @zmp <| ai @zmq <| ai @zmr <| ai @zid <| ai @zsw <| ai @zie <| @zif
theorem gr3:type_of% (ai @zig <| ai @zih <| ai @zf9 <| ai @zga <| ai @zgb <| ai @zgc <| ai @zFG <| ai @zAi <| ai @zan <| ai @zgi <| ai @zeZ <| ai @zgj <| ai @zim <| ai @zin <| ai @zmA <| @zdR):=ai @zig <| ai @zih <| ai @zf9 <| ai @zga <| ai @zgb <| ai @zgc <| ai @zFG <| ai @zAi <| ai @zan <| ai @zgi <| ai @zeZ <| ai @zgj <| ai @zim <| ai @zin <| ai @zmA <| @zdR
theorem gr4:type_of% (ai @zgk <| ai @zdS <| ai @zgl <| ai @zdE <| ai @List.length_set.{0} <| ai @List.length_range <| ai @zgm <| @zgn):=ai @zgk <| ai @zdS <| ai @zgl <| ai @zdE <| ai @List.length_set.{0} <| ai @List.length_range <| ai @zgm <| @zgn
theorem gr:type_of% (ai @gr0 <| ai @gr1 <| ai @gr2 <| ai @gr3 <| @gr4):=ai @gr0 <| ai @gr1 <| ai @gr2 <| ai @gr3 <| @gr4
end Go.Abs

/- DERIVED by an AI agent. Tables: numbers of inner rows, their cells; a row that becomes a table's. No program in sight. -/
namespace Go.Abs
set_option linter.unusedSimpArgs false
def zkr (k n i:Nat):List PV:=(List.range n).map fun t=>if t < i then .own (sid k t) 1 else .v (.slice none 0 0)
theorem zyK (k n:Nat):List.replicate n (PV.v (.slice none 0 0)) = zkr k n 0:=by
 refine List.ext_getElem (by simp [zkr]) fun t a b=>by simp [zkr]
theorem zjT (k n i:Nat):(zkr k n i).length = n:=by simp [zkr]
theorem zAH (k n:Nat):zkr k n n = zax k (List.range n):=by
 refine List.ext_getElem (by simp [zkr,zax]) fun t a b=>?_
 have:t < n:=by simpa [zkr] using a
 simp [zkr,zax,this]
theorem zAI [zag] {k n i d v:Nat} (h:i < n):(zkr k n (i + 1)).length = (spl (zkr k n i) i [.own d v]).length ∧
 ∀ t (a:t < (spl (zkr k n i) i [PV.own d v]).length) (b:t < (zkr k n (i + 1)).length),(zkr k n (i + 1))[t] = (spl (zkr k n i) i [PV.own d v])[t] ∨ ((spl (zkr k n i) i [PV.own d v])[t] = .own d v∧(zkr k n (i + 1))[t] = .own (sid k i) 1):=by
 rw [zC4 (by rw [zjT];exact h)]
 refine ⟨by simp [zjT],fun t a b=>?_⟩
 rw [List.getElem_set]
 by_cases he:i = t
 ·subst he
  rw [if_pos rfl]
  refine .inr ⟨rfl,?_⟩
  simp [zkr]
 ·rw [if_neg he]
  refine .inl ?_
  simp only [zkr,List.getElem_map,List.getElem_range]
  by_cases ht:t < i
  ·rw [if_pos ht,if_pos (by omega)]
  ·rw [if_neg ht,if_neg (by omega)]
section
variable {P:Program} {T:Tab} {s:St}
theorem Wk.tab [zag] {k v e:Nat} {c:List PV} (hk:s.rw k = ⟨v,.sli e 1 false c⟩) (hc:zbB c):Wk s (s.row k ⟨v,.tab e c⟩):=by
 intro G a w ⟨E,hs⟩
 have hR:E.R k = ⟨v,.sli e 1 false c⟩:=by rw [hs.rw];exact hk
 have ht:OneTurn E w w k ⟨v,.tab e c⟩ (E.rm k) (E.rv k) :=
  ⟨fun _ _ _=>rfl,fun b hb _=>.inr ⟨hb,by rw [hR];rfl,fun _=>by rw [hR];rfl⟩,by rw [hR];exact Nat.le_refl _,
   fun _ _=>⟨by rw [hR];rfl,rfl⟩,fun _ _=>⟨by rw [hR];rfl,rfl⟩,fun _=>by have:=hs.wok.pos k (by rw [hR];rfl);rw [hR] at this;exact this,Nat.le_refl _,rfl,rfl,⟨rfl,fun _=>by first | exact Nat.le_refl _ | exact Nat.le_succ _⟩⟩
 have hturn:=ht.turn (fz:=[]) hs.wok
 have hrows:=ht.rows (fz:=[]) hs.wok (fun j hj=>by cases hj) (fun hl=>by
  have hrow:=hs.wok.rows k
  unfold zas at hrow ⊢
  rw [hR] at hrow
  simp only [Env.turn,zai]
  rcases hrow with h | ⟨b,n,cap,vs,rest,h1,h2,h3,h4,h5,h6,h7,h8,h9⟩
  ·exact .inl h
  ·exact .inr ⟨b,n,cap,vs,rest,h1,h2,h3,h4,by omega,h6,h7,by omega,zcF hc h9⟩)
 have:=hturn.sim hs hrows
 refine ⟨E.turn [] k ⟨v,.tab e c⟩ (E.rm k) (E.rv k),?_⟩
 have e:({ s with rw:=(E.turn [] k ⟨v,.tab e c⟩ (E.rm k) (E.rv k)).R }:St) = s.row k ⟨v,.tab e c⟩:=by
  have hf:zgt E.R [] = E.R:=ze3 E.R
  simp only [Env.turn,hf,hs.rw]
  rfl
 rw [e] at this
 exact this
theorem Wk.ren [zag] {d k k' v vk e et sz:Nat} {c cs cs':List PV} (hd:s.rw d = ⟨v,.sli e sz false c⟩) (hk:s.rw k = ⟨vk,.tab et cs⟩) (hk':s.rw k' = ⟨0,.dead⟩) (hdl:d < lent)
 (hcs:cs'.length = cs.length∧∀ i (a:i < cs.length) (b:i < cs'.length),cs'[i] = cs[i] ∨ (cs[i] = .own d v∧cs'[i] = .own k' 1)) :
 Wk s (((s.row d ⟨v + 1,.dead⟩).row k' ⟨1,.sli e sz false c⟩).row k ⟨vk,.tab et cs'⟩):=by
 intro G a w ⟨E,hs⟩
 have hRd:E.R d = ⟨v,.sli e sz false c⟩:=by rw [hs.rw];exact hd
 have hRk:E.R k = ⟨vk,.tab et cs⟩:=by rw [hs.rw];exact hk
 have hRk':E.R k' = ⟨0,.dead⟩:=by rw [hs.rw];exact hk'
 have ndk:d ≠ k:=fun e=>by rw [e,hRk] at hRd;cases hRd
 have ndk':d ≠ k':=fun e=>by rw [e,hRk'] at hRd;cases hRd
 have nkk':k ≠ k':=fun e=>by rw [e,hRk'] at hRk;cases hRk
 let R':Nat→Row:=zcj (zcj (zcj E.R d ⟨v + 1,.dead⟩) k' ⟨1,.sli e sz false c⟩) k ⟨vk,.tab et cs'⟩
 let rm':Nat→Option Nat:=zcj (zcj E.rm d none) k' (E.rm d)
 let rv':Nat→Value:=zcj E.rv k' (E.rv d)
 let E':Env:={ R:=R',rm:=rm',rv:=rv',L:=mkL E.X R' rm',B:=E.B,X:=E.X }
 have Rk:E'.R k = ⟨vk,.tab et cs'⟩:=zai _ _ _
 have Rk':E'.R k' = ⟨1,.sli e sz false c⟩:=by show R' k' = _;simp only [R'];rw [zal _ _ (Ne.symm nkk'),zai]
 have Rd:E'.R d = ⟨v + 1,.dead⟩:=by show R' d = _;simp only [R'];rw [zal _ _ ndk,zal _ _ ndk',zai]
 have Ro:∀ j,j ≠ d→j ≠ k→j ≠ k'→E'.R j = E.R j:=fun j h1 h2 h3=>by show R' j = _;simp only [R'];rw [zal _ _ h2,zal _ _ h3,zal _ _ h1]
 have Mk':E'.rm k' = E.rm d:=zai _ _ _
 have Md:E'.rm d = none:=by show rm' d = _;simp only [rm'];rw [zal _ _ ndk',zai]
 have Mo:∀ j,j ≠ d→j ≠ k'→E'.rm j = E.rm j:=fun j h1 h3=>by show rm' j = _;simp only [rm'];rw [zal _ _ h3,zal _ _ h1]
 have Vk':E'.rv k' = E.rv d:=zai _ _ _
 have Vo:∀ j,j ≠ k'→E'.rv j = E.rv j:=fun j h=>zal _ _ h
 have hL:∀ b,E'.L b ↔ E.L b:=by
  intro b
  rw [hs.wok.live]
  constructor
  ·rintro (⟨j,h1,h2⟩ | hX)
   rotate_left
   ·exact .inr hX
   refine .inl ?_
   have h1:E'.rm j = some b:=h1
   have h2:(E'.R j).kind.live = true:=h2
   by_cases jk':j = k'
   ·subst jk';rw [Mk'] at h1;exact ⟨d,h1,by rw [hRd];rfl⟩
   ·by_cases jd:j = d
    ·subst jd;rw [Md] at h1;cases h1
    ·rw [Mo j jd jk'] at h1
     by_cases jk:j = k
     ·subst jk;exact ⟨j,h1,by rw [hRk];rfl⟩
     ·rw [Ro j jd jk jk'] at h2;exact ⟨j,h1,h2⟩
  ·rintro (⟨j,h1,h2⟩ | hX)
   rotate_left
   ·exact .inr hX
   refine .inl ?_
   by_cases jk':j = k'
   ·subst jk';rw [hRk'] at h2;cases h2
   ·by_cases jd:j = d
    ·subst jd;exact ⟨k',by show E'.rm k' = some b;rw [Mk'];exact h1,by show (E'.R k').kind.live = true;rw [Rk'];rfl⟩
    ·by_cases jk:j = k
     ·subst jk;exact ⟨j,by show E'.rm j = some b;rw [Mo j jd jk'];exact h1,by show (E'.R j).kind.live = true;rw [Rk];rfl⟩
     ·exact ⟨j,by show E'.rm j = some b;rw [Mo j jd jk'];exact h1,by show (E'.R j).kind.live = true;rw [Ro j jd jk jk'];exact h2⟩
 have hl:Lasts w w E E':=by
  refine ⟨fun b _ h=>⟨rfl,fun h'=>h ((hL b).1 h')⟩,fun j=>?_,fun j he hs'=>?_,fun j he hs'=>?_,Nat.le_refl _⟩
  all_goals
   by_cases jk':j = k'
   ·subst jk'
    first
     | (rw [hRk'];exact Nat.zero_le _)
     | (rw [Rk',hRk'] at he;cases he)
   ·by_cases jd:j = d
    ·subst jd
     first
      | (rw [Rd,hRd];exact Nat.le_succ _)
      | (rw [Rd] at hs';cases hs')
    ·by_cases jk:j = k
     ·subst jk
      first
       | (rw [Rk,hRk];exact Nat.le_refl _)
       | exact ⟨by rw [hRk];rfl,Vo j jk'⟩
       | exact ⟨by rw [hRk];rfl,Mo j jd jk'⟩
     ·first
       | (rw [Ro j jd jk jk'];exact Nat.le_refl _)
       | (rw [Ro j jd jk jk'] at hs';exact ⟨hs',Vo j jk'⟩)
       | (rw [Ro j jd jk jk'] at hs';exact ⟨hs',Mo j jd jk'⟩)
 have hwok:WOk G E' w:=by
  refine ⟨fun j=>?_,fun j j' b n1 n2 e1 e2=>?_,fun b=>Iff.rfl,fun j hn=>?_,hs.wok.base,hs.wok.xs,hs.wok.fx,fun j b hn hb=>?_,hs.wok.kept,fun j=>?_⟩
  ·by_cases jk':j = k'
   ·subst jk'
    have hrow:=hs.wok.rows d
    unfold zas at hrow ⊢
    rw [hRd] at hrow
    rw [Rk',Mk',Vk']
    rcases hrow with h | ⟨b,n,cap,vs,rest,h1,h2,h3,h4,h5,h6,h7,h8,h9⟩
    ·exact .inl h
    ·refine .inr ⟨b,n,cap,vs,rest,h1,?_,h3,h4,h5,h6,h7,h8,h9.mono hl.bare (Nat.le_refl _)⟩
     rcases h2 with h2 | h2
     ·exact .inl h2
     ·exact absurd h2.1 (by omega)
   ·by_cases jd:j = d
    ·subst jd;unfold zas;rw [Rd];trivial
    ·by_cases jk:j = k
     ·subst jk
      have hrow:=hs.wok.rows j
      unfold zas at hrow ⊢
      rw [hRk] at hrow
      rw [Rk,Mo j jd jk',Vo j jk']
      rcases hrow with ⟨g1,g2,g3⟩ | ⟨b,n,cap,vs,rest,h1,h2,h3,h4,h5,h6,h7,h8,h9⟩
      ·refine .inl ⟨g1,g2,List.eq_nil_of_length_eq_zero (by rw [hcs.1,g3];rfl)⟩
      ·refine .inr ⟨b,n,cap,vs,rest,h1,h2,h3,h4,h5,h6,h7,h8,by rw [hcs.1];exact h9.1,fun i a' b'=>?_⟩
       have ha:i < cs.length:=by rw [← hcs.1];exact a'
       have h0:=h9.2 i ha b'
       rcases hcs.2 i ha a' with he | ⟨he1,he2⟩
       ·rw [he];exact h0.mono hl (Nat.le_refl _)
       ·rw [he1] at h0
        rw [he2]
        cases h0 with
        | own hv hx =>
          refine .own (by rw [Rk'];exact Nat.le_refl _) fun _ _=>?_
          rw [Vk']
          exact hx (by rw [hRd]) (by rw [hRd];rfl)
     ·have hrow:=hs.wok.rows j
      unfold zas at hrow ⊢
      rw [Ro j jd jk jk',Mo j jd jk',Vo j jk']
      cases hkd:(E.R j).kind with
      | dead=>trivial
      | nil=>simpa only [hkd] using hrow
      | box t cells =>
        simp only [hkd] at hrow ⊢
        obtain ⟨b,vs,h1,h2,h3,h4⟩:=hrow
        exact ⟨b,vs,h1,h2,h3,h4.mono hl (Nat.le_refl _)⟩
      | sli e sz fz cells =>
        simp only [hkd] at hrow ⊢
        rcases hrow with h | ⟨b,n,cap,vs,rest,h1,h2,h3,h4,h5,h6,h7,h8,h9⟩
        ·exact .inl h
        ·exact .inr ⟨b,n,cap,vs,rest,h1,h2,h3,h4,h5,h6,h7,h8,h9.mono hl.bare (Nat.le_refl _)⟩
      | tab e cells =>
        simp only [hkd] at hrow ⊢
        rcases hrow with h | ⟨b,n,cap,vs,rest,h1,h2,h3,h4,h5,h6,h7,h8,h9⟩
        ·exact .inl h
        ·exact .inr ⟨b,n,cap,vs,rest,h1,h2,h3,h4,h5,h6,h7,h8,h9.mono hl (Nat.le_refl _)⟩
  ·
   have back:∀ j b,(E'.R j).kind.nd = true→E'.rm j = some b→(if j = k' then d else j) = (if j = k' then d else j)∧(E.R (if j = k' then d else j)).kind.nd = true∧E.rm (if j = k' then d else j) = some b∧j ≠ d:=by
    intro j b hn hm
    by_cases jk':j = k'
    ·subst jk';rw [if_pos rfl];rw [Mk'] at hm;exact ⟨rfl,by rw [hRd];rfl,hm,Ne.symm ndk'⟩
    ·rw [if_neg jk']
     have jd:j ≠ d:=fun e=>by subst e;rw [Md] at hm;cases hm
     rw [Mo j jd jk'] at hm
     refine ⟨rfl,?_,hm,jd⟩
     by_cases jk:j = k
     ·subst jk;rw [hRk];rfl
     ·rw [← Ro j jd jk jk'];exact hn
   obtain ⟨_,a1,a2,a3⟩:=back j b n1 e1
   obtain ⟨_,b1,b2,b3⟩:=back j' b n2 e2
   have:=hs.wok.inj _ _ b a1 b1 a2 b2
   by_cases jk:j = k'
   ·by_cases jk2:j' = k'
    ·rw [jk,jk2]
    ·rw [if_pos jk,if_neg jk2] at this;exact absurd this.symm b3
   ·by_cases jk2:j' = k'
    ·rw [if_neg jk,if_pos jk2] at this;exact absurd this a3
    ·rw [if_neg jk,if_neg jk2] at this;exact this
  ·by_cases jk':j = k'
   ·subst jk';rw [Rk'];exact Nat.one_pos
   ·by_cases jd:j = d
    ·subst jd;rw [Rd];exact Nat.succ_pos _
    ·by_cases jk:j = k
     ·subst jk;rw [Rk];have:=hs.wok.pos j (by rw [hRk];rfl);rw [hRk] at this;exact this
     ·rw [Ro j jd jk jk'] at hn ⊢;exact hs.wok.pos j hn
  ·by_cases jk':j = k'
   ·subst jk';rw [Mk'] at hb;exact hs.wok.apart d b (by rw [hRd];rfl) hb
   ·by_cases jd:j = d
    ·subst jd;rw [Md] at hb;cases hb
    ·rw [Mo j jd jk'] at hb
     by_cases jk:j = k
     ·subst jk;exact hs.wok.apart j b (by rw [hRk];rfl) hb
     ·rw [Ro j jd jk jk'] at hn;exact hs.wok.apart j b hn hb
  ·obtain ⟨p1,p2⟩:=hs.wok.pin j
   by_cases jk':j = k'
   ·subst jk'
    rw [hRk'] at p1
    have p1:(G.pR j).ver = 0:=Nat.le_zero.1 p1
    rw [Rk']
    exact ⟨by rw [p1];exact Nat.zero_le _,fun h=>by rw [p1] at h;cases h⟩
   ·by_cases jd:j = d
    ·subst jd
     rw [Rd]
     rw [hRd] at p1
     exact ⟨Nat.le_succ_of_le p1,fun h h'=>by cases h'⟩
    ·by_cases jk:j = k
     ·subst jk
      rw [Rk,Mo j jd jk',Vo j jk']
      rw [hRk] at p1 p2
      exact ⟨p1,fun h _=>p2 h rfl⟩
     ·rw [Ro j jd jk jk',Mo j jd jk',Vo j jk'];exact ⟨p1,p2⟩
 refine ⟨E',?_,hwok,hs.size,hs.defers,fun i=>(hs.slots i).mono hl (Nat.le_refl _)⟩
 show R' = _
 simp only [R',hs.rw]
 rfl
end
end Go.Abs
namespace Go.Abs
section
variable {Q:AX→St→Prop} {s:St}
theorem zDr [zag] {α:Type} (I:α→St→Prop) (μ:α→Nat) (x0:α) {s0:St} (hw:Wk s s0) {b:(AX→St→Prop)→St→Prop} {u:Dm b} {v:Dm Q} (h0:I x0 s0) (h:∀ x s1,I x s1→b (AX.seq (zpg I μ (μ x)) Q) s1):zqG (kk b u) (kk Q v) s :=
 ⟨α,I,μ,⟨x0,s0,hw,h0⟩,h⟩
theorem zvd (n:Nat):zbB (List.replicate n (.v (.slice none 0 0))):=fun p hp=>by
 rw [(List.mem_replicate.1 hp).2];rfl
end
end Go.Abs
namespace Go.Abs
theorem zpP {rw:Nat→Row} {e2 k:Nat}:∀ (p:List Nat) (rows:List (List PV)) (K:List Nat→Prop),rows.length = p.length →
 (∀ i (a:i < p.length) (b:i < rows.length),sid k p[i] < lent∧rw (sid k p[i]) = ⟨1,.sli e2 1 false rows[i]⟩)→K (p.map (sid k))→ztG rw e2 (zax k p) rows K:=by
 intro p
 induction p with
 | nil=>intro rows K h _ hk;cases rows with | nil=>exact hk | cons r rs=>simp at h
 | cons j p ih =>
   intro rows K h hr hk
   cases rows with
   | nil=>simp at h
   | cons r rs =>
     have h0:=hr 0 (by simp) (by simp)
     exact ⟨h0.1,h0.2,ih rs _ (by simpa using h) (fun i a b=>hr (i + 1) (by simpa using a) (by simpa using b)) hk⟩
end Go.Abs

/- DERIVED by an AI agent. Tables of numbers: one number written, two rows swapped. No program in sight. -/
namespace Go.Abs
set_option linter.unusedSimpArgs false
set_option linter.unusedVariables false
abbrev Mat:=List (List Int)
structure TabI (rw:Nat→Row) (k v e e2:Nat) (q:List Nat) (M:Mat):Prop where
 is:TabIs rw k v e e2 q (M.map iL)
 nd:q.Nodup
theorem zb2 (M:Mat) (i:Nat):(M.map iL).getD i [] = iL (M.getD i []):=by
 by_cases h:i < M.length
 ·simp [List.getD,h]
 ·simp [List.getD,h,iL]
section
variable {rw rw':Nat→Row} {k v e e2:Nat} {q:List Nat} {M:Mat}
theorem TabI.len (h:TabI rw k v e e2 q M):q.length = M.length:=by rw [h.is.len];simp
theorem TabI.top (h:TabI rw k v e e2 q M):rw k = ⟨v,.tab e (zax k q)⟩:=h.is.top
theorem TabI.row [zag] (h:TabI rw k v e e2 q M) {i:Nat} (hi:i < M.length):rw (sid k (q.getD i 0)) = ⟨1,.sli e2 1 false (iL (M.getD i []))⟩:=by
 rw [h.is.row i (by rw [h.len];exact hi),zb2]
theorem TabI.ne [zag] (h:TabI rw k v e e2 q M) {i j:Nat} (hi:i < M.length) (hj:j < M.length) (hij:i ≠ j):¬ sid k (q.getD i 0) = sid k (q.getD j 0):=fun e=>by
 have hi':i < q.length:=by rw [h.len];exact hi
 have hj':j < q.length:=by rw [h.len];exact hj
 have h1:q.getD i 0 = q[i]:=by simp [List.getD,hi']
 have h2:q.getD j 0 = q[j]:=by simp [List.getD,hj']
 have:=zcX e
 rw [h1,h2] at this
 exact hij ((List.getElem_inj (h₀:=hi') (h₁:=hj') h.nd).1 this)
theorem TabI.same [zag] (h:TabI rw k v e e2 q M) (h1:rw' k = rw k) (h2:∀ x,rw' (sid k x) = rw (sid k x)):TabI rw' k v e e2 q M :=
 ⟨⟨h1.trans h.top,h.is.len,fun i hi=>(h2 _).trans (h.is.row i hi)⟩,h.nd⟩
theorem TabI.to (h:TabI rw k v e e2 q M) {M':Mat} (he:M = M'):TabI rw k v e e2 q M':=he ▸ h
theorem TabI.set [zag] (h:TabI rw k v e e2 q M) {i:Nat} (hi:i < M.length) {r:List Int} (h1:rw' k = rw k) (h2:rw' (sid k (q.getD i 0)) = ⟨1,.sli e2 1 false (iL r)⟩)
 (h3:∀ x,¬ sid k x = sid k (q.getD i 0)→rw' (sid k x) = rw (sid k x)):TabI rw' k v e e2 q (M.set i r):=by
 refine ⟨⟨h1.trans h.top,by rw [h.len];simp,fun j hj=>?_⟩,h.nd⟩
 have hj':j < M.length:=by rw [← h.len];exact hj
 rw [zb2]
 by_cases e:j = i
 ·subst e
  have:(M.set j r).getD j [] = r:=by simp [List.getD,hi]
  rw [h2,this]
 ·have:(M.set i r).getD j [] = M.getD j []:=by simp [List.getD,List.getElem?_set_ne (Ne.symm e)]
  rw [h3 _ (h.ne hj' hi e),h.row hj',this]
theorem TabI.swap [zag] (h:TabI rw k v e e2 q M) {a b:Nat} (ha:a < M.length) (hb:b < M.length) (h1:rw' k = ⟨v,.tab e (zax k ((q.set a (q.getD b 0)).set b (q.getD a 0)))⟩) (h2:∀ x,rw' (sid k x) = rw (sid k x)) :
 TabI rw' k v e e2 ((q.set a (q.getD b 0)).set b (q.getD a 0)) ((M.set a (M.getD b [])).set b (M.getD a []))∧((q.set a (q.getD b 0)).set b (q.getD a 0)).Perm q:=by
 have ha':a < q.length:=by rw [h.len];exact ha
 have hb':b < q.length:=by rw [h.len];exact hb
 have e1:q.getD a 0 = q[a]:=by simp [List.getD,ha']
 have e2':q.getD b 0 = q[b]:=by simp [List.getD,hb']
 have hp:((q.set a (q.getD b 0)).set b (q.getD a 0)).Perm q:=by rw [e1,e2'];exact List.set_set_perm ha' hb'
 refine ⟨⟨⟨h1,by simp [h.len],fun j hj=>?_⟩,hp.nodup_iff.2 h.nd⟩,hp⟩
 have hj':j < M.length:=by simpa [h.len] using hj
 have hjq:j < q.length:=by rw [h.len];exact hj'
 rw [zb2,h2]
 by_cases eb:j = b
 ·subst eb
  have q1:((q.set a (q.getD j 0)).set j (q.getD a 0)).getD j 0 = q.getD a 0:=by simp [List.getD,hjq]
  have q2:((M.set a (M.getD j [])).set j (M.getD a [])).getD j [] = M.getD a []:=by simp [List.getD,hj']
  rw [q1,q2];exact h.row ha
 ·by_cases ea:j = a
  ·subst ea
   have q1:((q.set j (q.getD b 0)).set b (q.getD j 0)).getD j 0 = q.getD b 0:=by
    simp only [List.getD]
    rw [List.getElem?_set_ne (Ne.symm eb),List.getElem?_set_self hjq];rfl
   have q2:((M.set j (M.getD b [])).set b (M.getD j [])).getD j [] = M.getD b []:=by
    simp only [List.getD]
    rw [List.getElem?_set_ne (Ne.symm eb),List.getElem?_set_self hj'];rfl
   rw [q1,q2];exact h.row hb
  ·have q1:((q.set a (q.getD b 0)).set b (q.getD a 0)).getD j 0 = q.getD j 0:=by
    simp only [List.getD]
    rw [List.getElem?_set_ne (Ne.symm eb),List.getElem?_set_ne (Ne.symm ea)]
   have q2:((M.set a (M.getD b [])).set b (M.getD a [])).getD j [] = M.getD j []:=by
    simp only [List.getD]
    rw [List.getElem?_set_ne (Ne.symm eb),List.getElem?_set_ne (Ne.symm ea)]
   rw [q1,q2];exact h.row hj'
theorem zCr [zag] (M:Mat):zjy (M.map iL):=fun i _=>by rw [zb2];exact zbo _
theorem zF5 [zag] (e e2:Nat) (M:Mat):TabI (inT e e2 (M.map iL)) 1000000 1 e e2 (List.range M.length) M:=by
 refine ⟨?_,List.nodup_range⟩
 have:=@zE3 e e2 (M.map iL)
 rw [List.length_map] at this
 exact this
end
theorem AT.goI [zag] {P:Program} {T:Tab} {f:FuncId} {fn:Func} {c:Code} {rs:List ResultVar} {args:List PV} {e e2:Nat} {M M':Mat} {res:TR} (hT:T.Ok P) (hm:P.follows .mixedOrders = true) (hf:P.funcs[f]? = some fn) (hname:(fn.name == "runtime.NumGoroutine") = false)
 (hb:fn.body = some c) (hr:fn.results.toList = rs) (hfit:(fits fn.ntmps c && decide (args.length ≤ fn.ntmps) && decide (fn.results.toList.length ≤ 4)) = true) (hlen:M'.length = M.length)
 (h:M.length ≤ 9223372036854775807→∀ s:St,(∀ i,s.sl i = args.getD i .junk)→(∀ j,j < 1000000→s.rw j = ⟨0,.dead⟩)→TabI s.rw 1000000 1 e e2 (List.range M.length) M→cwp P T c (zFH T rs e e2 M.length (M'.map iL) res) s):AT P f args e e2 (M.map iL) (M'.map iL) res:=by
 subst hr
 refine AT.of hT hm hf hname hb hfit (zCr M) (zCr M') (by simpa using hlen) fun h1 _=>?_
 have:=h (by simpa using h1) (St.initT args e e2 (M.map iL)) (fun _=>rfl) (fun j hj=>ztQ hj) (zF5 e e2 M)
 have e9:(M.map iL).length = M.length:=List.length_map _
 rwa [← e9] at this
theorem zyI {rw:Nat→Row} {e e2 n:Nat} {q:List Nat} {M:Mat} (h:TabI rw 1000000 1 e e2 q M) (hq:q.Perm (List.range n)):ztF rw e e2 n (M.map iL):=⟨q,h.is,hq⟩
structure TabP (rw:Nat→Row) (k v e e2 n i:Nat) (M:Mat):Prop where
 top:rw k = ⟨v,.tab e (zkr k n i)⟩
 len:M.length = i
 row:∀ j,j < i→rw (sid k j) = ⟨1,.sli e2 1 false (iL (M.getD j []))⟩
 rest:∀ j,i ≤ j→rw (sid k j) = ⟨0,.dead⟩
section
variable {s:St} {rw rw':Nat→Row} {k v e e2 n i d vd:Nat} {M:Mat} {r:List Int}
theorem TabP.init [zag] (e2:Nat) (hk:s.rw k = ⟨v,.sli e 1 false (List.replicate n (.v (.slice none 0 0)))⟩) (hd:∀ j,s.rw (sid k j) = ⟨0,.dead⟩) :
 ∃ s',Wk s s'∧TabP s'.rw k v e e2 n 0 []∧s'.sl = s.sl∧∀ j,(j % 1000 == k % 1000) = false→s'.rw j = s.rw j:=by
 refine ⟨_,Wk.tab hk (zvd n),⟨?_,rfl,fun j hj=>absurd hj (by omega),fun j _=>?_⟩,rfl,fun j hj=>?_⟩
 ·rw [zaE,zyK]
 ·rw [zao _ _ _ _ (zcR k j)];exact hd j
 ·have hj:=beq_eq_false_iff_ne.1 hj
  rw [zao _ _ _ _ (fun e=>hj (by rw [e]))]
theorem zpO {M:Mat} {r:List Int} {j:Nat}:(M ++ [r]).getD j [] = if j < M.length then M.getD j [] else if j = M.length then r else []:=by
 by_cases h1:j < M.length
 ·rw [if_pos h1];simp [List.getD,List.getElem?_append_left h1]
 ·rw [if_neg h1]
  by_cases h2:j = M.length
  ·rw [if_pos h2];subst h2;simp [List.getD]
  ·rw [if_neg h2];simp [List.getD,List.getElem?_append_right (by omega:M.length ≤ j)];rw [List.getElem?_eq_none (by simp;omega)];rfl
theorem TabP.push [zag] (hk:s.rw k = ⟨v,.tab e (spl (zkr k n i) i [.own d vd])⟩) (hl:M.length = i) (hrow:∀ j,j < i→s.rw (sid k j) = ⟨1,.sli e2 1 false (iL (M.getD j []))⟩) (hrest:∀ j,i ≤ j→s.rw (sid k j) = ⟨0,.dead⟩)
 (hd:s.rw d = ⟨vd,.sli e2 1 false (iL r)⟩) (hdl:d < lent) (hdk:(d % 1000 == k % 1000) = false) (hi:i < n) :
 ∃ s',Wk s s'∧TabP s'.rw k v e e2 n (i + 1) (M ++ [r])∧s'.sl = s.sl∧∀ j,(j % 1000 == k % 1000) = false→(j == d) = false→s'.rw j = s.rw j:=by
 have hdk':=beq_eq_false_iff_ne.1 hdk
 have ndk:d ≠ k:=fun e=>hdk' (by rw [e])
 have nds:∀ j,d ≠ sid k j:=fun j e=>hdk' (by rw [e,zaa])
 refine ⟨_,Wk.ren (k':=sid k i) (cs':=zkr k n (i + 1)) hd hk (hrest i (Nat.le_refl i)) hdl (zAI hi),⟨?_,by simp [hl],fun j hj=>?_,fun j hj=>?_⟩,rfl,fun j hj hj2=>?_⟩
 ·rw [zaE]
 ·rw [zao _ _ _ _ (zcR k j),zpO,hl]
  by_cases e1:j = i
  ·subst e1
   rw [zaE,if_neg (by omega),if_pos rfl]
  ·rw [zao _ _ _ _ (fun h=>e1 (zcX h)),zao _ _ _ _ (Ne.symm (nds j)),if_pos (by omega)]
   exact hrow j (by omega)
 ·rw [zao _ _ _ _ (zcR k j),zao _ _ _ _ (fun h=>by have:=zcX h;omega),zao _ _ _ _ (Ne.symm (nds j))]
  exact hrest j (by omega)
 ·have hj:=beq_eq_false_iff_ne.1 hj
  have hj2:=beq_eq_false_iff_ne.1 hj2
  rw [zao _ _ _ _ (fun e=>hj (by rw [e])),zao _ _ _ _ (fun e=>hj (by rw [e,zaa])),zao _ _ _ _ hj2]
theorem TabP.set (h:TabP rw k v e e2 n i M) {j:Nat} (hj:j < i) (h1:rw' k = rw k) (h2:rw' (sid k j) = ⟨1,.sli e2 1 false (iL r)⟩) (h3:∀ x,¬ x = j→rw' (sid k x) = rw (sid k x)):TabP rw' k v e e2 n i (M.set j r):=by
 refine ⟨h1.trans h.top,by simp [h.len],fun x hx=>?_,fun x hx=>(h3 x (by omega)).trans (h.rest x hx)⟩
 by_cases e:x = j
 ·subst e
  have:(M.set x r).getD x [] = r:=by simp [List.getD,h.len,hj]
  rw [h2,this]
 ·have:(M.set j r).getD x [] = M.getD x []:=by simp [List.getD,List.getElem?_set_ne (Ne.symm e)]
  rw [h3 x e,h.row x hx,this]
theorem TabP.same (h:TabP rw k v e e2 n i M) (h1:rw' k = rw k) (h2:∀ x,rw' (sid k x) = rw (sid k x)):TabP rw' k v e e2 n i M :=
 ⟨h1.trans h.top,h.len,fun j hj=>(h2 j).trans (h.row j hj),fun j hj=>(h2 j).trans (h.rest j hj)⟩
theorem TabP.done [zag] (h:TabP rw k v e e2 n n M):TabI rw k v e e2 (List.range n) M:=by
 refine ⟨⟨by rw [h.top,zAH],by simp [h.len],fun j hj=>?_⟩,List.nodup_range⟩
 have hj:j < n:=by simpa using hj
 have e1:(List.range n).getD j 0 = j:=by simp [List.getD,hj]
 rw [e1,zb2];exact h.row j hj
theorem zyJ [zag] {q:List Nat} (h:TabI rw k v e e2 q M) (hk:k < 1000) (hq:∀ j ∈ q,j < 998):zpi rw (.own k v) (.tb e e2 (M.map iL)) List.Nodup:=by
 have hkl:k < lent:=by unfold lent;omega
 show zkx rw (.own k v) (.tb e e2 (M.map iL)) List.Nodup
 unfold zkx
 simp only [h.top]
 refine ⟨hkl,trivial,trivial,zpP q (M.map iL) _ (by rw [List.length_map,h.len]) (fun i a b=>?_) ?_⟩
 ·have hm:i < M.length:=by simpa using b
  have hr:=h.row hm
  have e1:q.getD i 0 = q[i]:=by simp [List.getD,a]
  have e3:M.getD i [] = M[i]:=by simp [List.getD,hm]
  rw [e1,e3] at hr
  refine ⟨ztP hk (hq _ (List.getElem_mem a)),?_⟩
  rw [hr,List.getElem_map]
 ·refine List.nodup_cons.2 ⟨fun hm=>?_,?_⟩
  ·obtain ⟨j,_,hj⟩:=List.mem_map.1 hm
   rw [zbq] at hj;omega
  ·refine List.Pairwise.map _ (fun a b hab=>?_) h.nd
   rw [Ne,zab];exact hab
theorem zjR [zag] {q:List Nat} (h:TabI rw k v e e2 q M) (hk:k < 1000) (hq:∀ j ∈ q,j < 998) {Kn:List Nat→Prop} (hK:Kn (k :: q.map (sid k))):zkx rw (.own k v) (.tb e e2 (M.map iL)) Kn:=by
 have hkl:k < lent:=by unfold lent;omega
 unfold zkx
 simp only [h.top]
 refine ⟨hkl,trivial,trivial,zpP q (M.map iL) _ (by rw [List.length_map,h.len]) (fun i a b=>?_) hK⟩
 have hm:i < M.length:=by simpa using b
 have hr:=h.row hm
 have e1:q.getD i 0 = q[i]:=by simp [List.getD,a]
 have e3:M.getD i [] = M[i]:=by simp [List.getD,hm]
 rw [e1,e3] at hr
 refine ⟨ztP hk (hq _ (List.getElem_mem a)),?_⟩
 rw [hr,List.getElem_map]
end
section
variable {Q:AX→St→Prop} {s:St} {k v e e2 n i d vd:Nat} {M:Mat} {r:List Int}
end
section
variable {s:St}
theorem Wk.untab [zag] {k v e:Nat} {c:List PV} (hk:s.rw k = ⟨v,.tab e c⟩) (hc:zbB c):Wk s (s.row k ⟨v,.sli e 1 false c⟩):=by
 intro G a w ⟨E,hs⟩
 have hR:E.R k = ⟨v,.tab e c⟩:=by rw [hs.rw];exact hk
 have ht:OneTurn E w w k ⟨v,.sli e 1 false c⟩ (E.rm k) (E.rv k) :=
  ⟨fun _ _ _=>rfl,fun b hb _=>.inr ⟨hb,by rw [hR];rfl,fun _=>by rw [hR];rfl⟩,by rw [hR];exact Nat.le_refl _,
   fun _ _=>⟨by rw [hR];rfl,rfl⟩,fun _ _=>⟨by rw [hR];rfl,rfl⟩,fun _=>by have:=hs.wok.pos k (by rw [hR];rfl);rw [hR] at this;exact this,Nat.le_refl _,rfl,rfl,⟨rfl,fun _=>by first | exact Nat.le_refl _ | exact Nat.le_succ _⟩⟩
 have hturn:=ht.turn (fz:=[]) hs.wok
 have hrows:=ht.rows (fz:=[]) hs.wok (fun j hj=>by cases hj) (fun hl=>by
  have hrow:=hs.wok.rows k
  unfold zas at hrow ⊢
  rw [hR] at hrow
  simp only [Env.turn,zai]
  rcases hrow with h | ⟨b,n,cap,vs,rest,h1,h2,h3,h4,h5,h6,h7,h8,h9⟩
  ·exact .inl h
  ·exact .inr ⟨b,n,cap,vs,rest,h1,h2,h3,h4,by omega,h6,h7,by omega,zcF hc h9⟩)
 have:=hturn.sim hs hrows
 refine ⟨E.turn [] k ⟨v,.sli e 1 false c⟩ (E.rm k) (E.rv k),?_⟩
 have e:({ s with rw:=(E.turn [] k ⟨v,.sli e 1 false c⟩ (E.rm k) (E.rv k)).R }:St) = s.row k ⟨v,.sli e 1 false c⟩:=by
  have hf:zgt E.R [] = E.R:=ze3 E.R
  simp only [Env.turn,hf,hs.rw]
  rfl
 rw [e] at this
 exact this
structure TabG (rw:Nat→Row) (k v e e2 n:Nat) (M:Mat):Prop where
 top:rw k = ⟨v,.tab e (zax k (List.range n))⟩
 len:M.length = n
 row:∀ j,j < n→rw (sid k j) = ⟨1,.sli e2 1 false (iL (M.getD j []))⟩
 rest:∀ j,n ≤ j→rw (sid k j) = ⟨0,.dead⟩
variable {rw rw':Nat→Row} {k v e e2 n d vd:Nat} {M:Mat} {r:List Int}
theorem TabG.same (h:TabG rw k v e e2 n M) (h1:rw' k = rw k) (h2:∀ x,rw' (sid k x) = rw (sid k x)):TabG rw' k v e e2 n M :=
 ⟨h1.trans h.top,h.len,fun j hj=>(h2 j).trans (h.row j hj),fun j hj=>(h2 j).trans (h.rest j hj)⟩
theorem TabG.done [zag] (h:TabG rw k v e e2 n M):TabI rw k v e e2 (List.range n) M:=by
 refine ⟨⟨h.top,by simp [h.len],fun j hj=>?_⟩,List.nodup_range⟩
 have hj:j < n:=by simpa using hj
 have e1:(List.range n).getD j 0 = j:=by simp [List.getD,hj]
 rw [e1,zb2];exact h.row j hj
theorem TabG.init [zag] (e2:Nat) (hk:s.rw k = ⟨v,.sli e 1 false []⟩) (hd:∀ j,s.rw (sid k j) = ⟨0,.dead⟩) :
 ∃ s',Wk s s'∧TabG s'.rw k v e e2 0 []∧s'.sl = s.sl∧∀ j,(j % 1000 == k % 1000) = false→s'.rw j = s.rw j:=by
 refine ⟨_,Wk.tab hk (fun p hp=>by cases hp),⟨?_,rfl,fun j hj=>absurd hj (by omega),fun j _=>?_⟩,rfl,fun j hj=>?_⟩
 ·rw [zaE];rfl
 ·rw [zao _ _ _ _ (zcR k j)];exact hd j
 ·have hj:=beq_eq_false_iff_ne.1 hj
  rw [zao _ _ _ _ (fun e=>hj (by rw [e]))]
theorem TabG.push [zag] (hk:s.rw k = ⟨v,.tab e (zax k (List.range n) ++ [.own d vd])⟩) (hl:M.length = n) (hrow:∀ j,j < n→s.rw (sid k j) = ⟨1,.sli e2 1 false (iL (M.getD j []))⟩) (hrest:∀ j,n ≤ j→s.rw (sid k j) = ⟨0,.dead⟩)
 (hd:s.rw d = ⟨vd,.tab e2 (iL r)⟩) (hdl:d < lent) (hdk:(d % 1000 == k % 1000) = false) :
 ∃ s',Wk s s'∧TabG s'.rw k v e e2 (n + 1) (M ++ [r])∧s'.sl = s.sl∧∀ j,(j % 1000 == k % 1000) = false→(j == d) = false→s'.rw j = s.rw j:=by
 have hdk':=beq_eq_false_iff_ne.1 hdk
 have ndk:d ≠ k:=fun e=>hdk' (by rw [e])
 have nds:∀ j,d ≠ sid k j:=fun j e=>hdk' (by rw [e,zaa])
 have w1:Wk s (s.row d ⟨vd,.sli e2 1 false (iL r)⟩):=Wk.untab hd (zbo r)
 have hcs:(zax k (List.range (n + 1))).length = (zax k (List.range n) ++ [PV.own d vd]).length∧∀ i (a:i < (zax k (List.range n) ++ [PV.own d vd]).length) (b:i < (zax k (List.range (n + 1))).length),
  (zax k (List.range (n + 1)))[i] = (zax k (List.range n) ++ [PV.own d vd])[i] ∨ ((zax k (List.range n) ++ [PV.own d vd])[i] = .own d vd∧(zax k (List.range (n + 1)))[i] = .own (sid k n) 1):=by
  refine ⟨by simp [zan],fun i a b=>?_⟩
  have hi:i < n + 1:=by simpa [zan] using b
  by_cases h:i < n
  ·refine .inl ?_
   rw [List.getElem_append_left (by simpa [zan] using h)]
   simp [zax]
  ·have:i = n:=by omega
   subst this
   refine .inr ⟨?_,?_⟩
   ·rw [List.getElem_append_right (by simp [zan])];simp [zan]
   ·simp [zax]
 have w2:=Wk.ren (s:=s.row d ⟨vd,.sli e2 1 false (iL r)⟩) (d:=d) (k:=k) (k':=sid k n) (v:=vd) (vk:=v) (e:=e2) (et:=e) (sz:=1) (c:=iL r) (cs:=zax k (List.range n) ++ [.own d vd]) (cs':=zax k (List.range (n + 1)))
  (zaE _ _ _) (by rw [zao _ _ _ _ (Ne.symm ndk)];exact hk) (by rw [zao _ _ _ _ (Ne.symm (nds n))];exact hrest n (Nat.le_refl n)) hdl hcs
 refine ⟨_,w1.trans w2,⟨?_,by simp [hl],fun j hj=>?_,fun j hj=>?_⟩,rfl,fun j hj hj2=>?_⟩
 ·rw [zaE]
 ·rw [zao _ _ _ _ (zcR k j),zpO,hl]
  by_cases e1:j = n
  ·subst e1
   rw [zaE,if_neg (by omega),if_pos rfl]
  ·rw [zao _ _ _ _ (fun h=>e1 (zcX h)),zao _ _ _ _ (Ne.symm (nds j)),zao _ _ _ _ (Ne.symm (nds j)),if_pos (by omega)]
   exact hrow j (by omega)
 ·rw [zao _ _ _ _ (zcR k j),zao _ _ _ _ (fun h=>by have:=zcX h;omega),zao _ _ _ _ (Ne.symm (nds j)),zao _ _ _ _ (Ne.symm (nds j))]
  exact hrest j (by omega)
 ·have hj:=beq_eq_false_iff_ne.1 hj
  have hj2:=beq_eq_false_iff_ne.1 hj2
  rw [zao _ _ _ _ (fun e=>hj (by rw [e])),zao _ _ _ _ (fun e=>hj (by rw [e,zaa])),zao _ _ _ _ hj2,zao _ _ _ _ hj2]
variable {Q:AX→St→Prop}
theorem zt5 [zag] {α:Type} (hk:s.rw k = ⟨v,.sli e 1 false []⟩) (hd:∀ j,s.rw (sid k j) = ⟨0,.dead⟩) (I:α→St→Prop) (μ:α→Nat) (x0:α) {b:(AX→St→Prop)→St→Prop} {u:Dm b} {w:Dm Q}
 (h0:∀ s',TabG s'.rw k v e e2 0 []→s'.sl = s.sl→(∀ j,(j % 1000 == k % 1000) = false→s'.rw j = s.rw j)→I x0 s') (h:∀ x s1,I x s1→b (AX.seq (zpg I μ (μ x)) Q) s1):zqG (kk b u) (kk Q w) s:=by
 obtain ⟨s',hw,ht,hsl,ho⟩:=TabG.init e2 hk hd
 exact ⟨α,I,μ,⟨x0,s',hw,h0 s' ht hsl ho⟩,h⟩
theorem zvb [zag] {α:Type} {I:α→St→Prop} {μ:α→Nat} {m:Nat} (hk:s.rw k = ⟨v,.tab e (zax k (List.range n) ++ [.own d vd])⟩) (hl:M.length = n) (hrow:∀ j,j < n→s.rw (sid k j) = ⟨1,.sli e2 1 false (iL (M.getD j []))⟩) (hrest:∀ j,n ≤ j→s.rw (sid k j) = ⟨0,.dead⟩)
 (hd:s.rw d = ⟨vd,.tab e2 (iL r)⟩) (hdl:d < lent) (hdk:(d % 1000 == k % 1000) = false) (x':α)
 (h0:∀ s',TabG s'.rw k v e e2 (n + 1) (M ++ [r])→s'.sl = s.sl→(∀ j,(j % 1000 == k % 1000) = false→(j == d) = false→s'.rw j = s.rw j)→I x' s') (hm:μ x' < m):zpg I μ m s:=by
 obtain ⟨s',hw,ht,hsl,ho⟩:=TabG.push hk hl hrow hrest hd hdl hdk
 exact ⟨x',s',hw,h0 s' ht hsl ho,hm⟩
end
theorem zvc [zag] {s:St} {k v e e2 i:Nat} {p:List Nat} {rows:List (List PV)} (hn:p.Nodup) (h:i < p.length):(s.tabbed k v e e2 p rows).rw (sid k (p.getD i 0)) = ⟨1,.sli e2 1 false (rows.getD i [])⟩:=zgs hn h
theorem zjS [zag] {k d:Nat} {q:List Nat} (hq:q.Nodup) (hd:∀ j ∈ q,d ≠ sid k j) (hdk:d ≠ k):(k :: q.map (sid k) ++ [d]).Nodup:=by
 rw [List.cons_append,List.nodup_cons,List.nodup_append]
 refine ⟨fun h=>?_,List.Pairwise.map _ (fun a b hab=>by rw [Ne,zab];exact hab) hq,List.nodup_cons.2 ⟨by simp,List.nodup_nil⟩,fun a ha b hb=>?_⟩
 ·rcases List.mem_append.1 h with h | h
  ·obtain ⟨j,_,hj⟩:=List.mem_map.1 h
   exact zcR k j hj
  ·exact hdk (List.mem_singleton.1 h).symm
 ·obtain ⟨j,hj,rfl⟩:=List.mem_map.1 ha
  rw [List.mem_singleton.1 hb]
  exact (hd j hj).symm
section
variable {s:St} {rw rw':Nat→Row} {k v e e2 n d vd:Nat} {M:Mat} {r:List Int}
theorem TabG.push0 [zag] (hk:s.rw k = ⟨v,.tab e (zax k (List.range n) ++ [.own d vd])⟩) (hl:M.length = n) (hrow:∀ j,j < n→s.rw (sid k j) = ⟨1,.sli e2 1 false (iL (M.getD j []))⟩) (hrest:∀ j,n ≤ j→s.rw (sid k j) = ⟨0,.dead⟩)
 (hd:s.rw d = ⟨vd,.sli e2 1 false (iL r)⟩) (hdl:d < lent) (hdk:(d % 1000 == k % 1000) = false) :
 ∃ s',Wk s s'∧TabG s'.rw k v e e2 (n + 1) (M ++ [r])∧s'.sl = s.sl∧∀ j,(j % 1000 == k % 1000) = false→(j == d) = false→s'.rw j = s.rw j:=by
 have hdk':=beq_eq_false_iff_ne.1 hdk
 have ndk:d ≠ k:=fun e=>hdk' (by rw [e])
 have nds:∀ j,d ≠ sid k j:=fun j e=>hdk' (by rw [e,zaa])
 have w1:Wk s (s.row d ⟨vd,.tab e2 (iL r)⟩):=Wk.tab hd (zbo r)
 obtain ⟨s',h1,h2,h3,h4⟩:=TabG.push (s:=s.row d ⟨vd,.tab e2 (iL r)⟩) (k:=k) (v:=v) (e:=e) (e2:=e2) (n:=n) (d:=d) (vd:=vd) (M:=M) (r:=r) (by rw [zao _ _ _ _ (Ne.symm ndk)];exact hk) hl
  (fun j hj=>by rw [zao _ _ _ _ (Ne.symm (nds j))];exact hrow j hj) (fun j hj=>by rw [zao _ _ _ _ (Ne.symm (nds j))];exact hrest j hj) (zaE _ _ _) hdl hdk
 refine ⟨s',w1.trans h1,h2,h3,fun j a b=>?_⟩
 rw [h4 j a b,zao _ _ _ _ (beq_eq_false_iff_ne.1 b)]
theorem zrd [zag] {α:Type} {I:α→St→Prop} {μ:α→Nat} {m:Nat} (hk:s.rw k = ⟨v,.tab e (zax k (List.range n) ++ [.own d vd])⟩) (hl:M.length = n) (hrow:∀ j,j < n→s.rw (sid k j) = ⟨1,.sli e2 1 false (iL (M.getD j []))⟩) (hrest:∀ j,n ≤ j→s.rw (sid k j) = ⟨0,.dead⟩)
 (hd:s.rw d = ⟨vd,.sli e2 1 false (iL r)⟩) (hdl:d < lent) (hdk:(d % 1000 == k % 1000) = false) (x':α)
 (h0:∀ s',TabG s'.rw k v e e2 (n + 1) (M ++ [r])→s'.sl = s.sl→(∀ j,(j % 1000 == k % 1000) = false→(j == d) = false→s'.rw j = s.rw j)→I x' s') (hm:μ x' < m):zpg I μ m s:=by
 obtain ⟨s',hw,ht,hsl,ho⟩:=TabG.push0 hk hl hrow hrest hd hdl hdk
 exact ⟨x',s',hw,h0 s' ht hsl ho,hm⟩
end
theorem TabI.adopt [zag] {s:St} {rw':Nat→Row} {d v e e2 n:Nat} {M:Mat} (h1:rw' d = (zak s d (.tb e e2 (M.map iL))).rw d) (h2:∀ x,rw' (sid d x) = (zak s d (.tb e e2 (M.map iL))).rw (sid d x)) (h:∀ i,i < M.length→(s.rw (sid d i)).ver = 0) (hv:(s.rw d).ver + 1 = v) (hn:M.length = n) :
 TabI rw' d v e e2 (List.range n) M:=by
 subst hv hn
 have h0:TabI (zak s d (.tb e e2 (M.map iL))).rw d ((s.rw d).ver + 1) e e2 (List.range M.length) M:=⟨by
  have:=zxN (s:=s) d e e2 (M.map iL) (fun i hi=>h i (by simpa using hi))
  rwa [List.length_map] at this,List.nodup_range⟩
 exact h0.same h1 h2
theorem AC.flat [zag] {P:Program} {f:FuncId} {args:List PV} {e e2:Nat} {rows:List (List PV)} (h:AC P f args (.tb e e2 rows)):AC P f args (.fr e 1 (rows.map fun r=>.sl false 1 r)):=by
 refine ⟨h.1,fun w vals hp hv=>(h.2 w vals hp hv).mono fun en w' ⟨v,lv,he,hx,hout,hn⟩=>?_⟩
 cases hout with
 | tbn=>exact ⟨_,_,he,hx,.nil,by simp [blk]⟩
 | @tb _ _ b n cap _ vs rest lvs hB hh hnn hc hm hl h1 h2 hvv hin =>
   refine ⟨_,[(.slice (some ⟨b,0,none⟩) n cap,some b)],he,hx,.fr hB hh (by omega) hc hm (by omega) ⟨by simp [h1,hnn],fun i a b'=>?_⟩,by simp [blk]⟩
   have hi:i < rows.length:=by simpa using a
   have h0:=hin i hi b' (by omega)
   simp only [List.getElem_map]
   have hbl:blk ((Value.slice (some ⟨b,0,none⟩) n cap,some b) :: lvs) = b :: blk lvs:=rfl
   have e1:blk [(Value.slice (some ⟨b,0,none⟩) n cap,some b)] = [b]:=rfl
   rw [e1]
   rw [hbl] at hn h0
   generalize hri:rows[i] = ri at *
   generalize hvi:vs[i] = vi at *
   generalize hli:lvs[i]'(by omega) = li at *
   cases h0 with
   | nil=>exact zda _ _ _ _ _
   | @fr _ _ b2 n2 cap2 _ vs2 rest2 hB2 hh2 hn2 hc2 hm2 hl2 hr2 =>
     have hb2:b2 ∈ blk lvs:=by
      simp only [blk,List.mem_filterMap]
      exact ⟨_,List.getElem_mem (by omega:i < lvs.length),by rw [hli]⟩
     have hne:b2 ≠ b:=fun e=>(List.nodup_cons.1 hn).1 (e ▸ hb2)
     have hB3:w.heap.size ≤ b2:=hB2
     refine .sl (fun j=>vs2.getD j undef) (hr2.1.trans hn2) hc2 hm2 (fun j hj=>⟨b2,0,rfl,?_,fun hL=>?_,?_⟩) (fun j hj=>?_)
     ·show max w.heap.size (if false = true then _ else 0) ≤ b2
      simp;exact hB3
     ·rcases hL with hL | hL
      ·have:b2 < w.heap.size:=hL
       omega
      ·exact hne (List.mem_singleton.1 hL)
     ·have hj':j < vs2.length:=by rw [← hr2.1];exact hj
      rw [Nat.zero_add,zaD hh2 (by simp;omega)]
      simp [List.getElem_append_left hj',List.getD,hj']
     ·have hj':j < vs2.length:=by rw [← hr2.1];exact hj
      have e2':vs2.getD j undef = vs2[j]:=by simp [List.getD,hj']
      rw [e2']
      have h3:=hr2.2 j hj hj'
      have h4:Rep w' (Env.out w.heap.size [b]).bare.bare w.heap.size ri[j] vs2[j]:=by
       refine Rep.above (E:=(Env.out w.heap.size (b :: blk lvs)).bare) h3 (fun _=>rfl) (fun _=>rfl) rfl rfl fun x hx' hL hL'=>?_
       rcases hL' with hL' | hL'
       ·exact hL (.inl hL')
       ·exact hL (.inr (by rw [List.mem_singleton.1 hL'];exact List.mem_cons_self))
      refine h4.low ?_
      show max w.heap.size (if false = true then _ else 0) ≤ w.heap.size
      simp
theorem zt6 {rw:Nat→Row} {k v e e2:Nat} (h:rw k = ⟨v,.sli e 1 false []⟩) (hk:k < 1000000):zpi rw (.own k v) (.tb e e2 []) List.Nodup:=by
 show zkx rw (.own k v) (.tb e e2 []) List.Nodup
 unfold zkx
 simp only [h]
 exact ⟨hk,trivial,trivial,trivial,trivial,trivial,by simp⟩
end Go.Abs
