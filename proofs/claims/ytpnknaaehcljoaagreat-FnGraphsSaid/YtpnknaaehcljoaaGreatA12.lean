/- DERIVED by an AI agent. -/
import Derived.Test.YtpnknaaehcljoaaGreatA11
/- DERIVED by an AI agent. The rules in heaps. No program in sight. -/
namespace Go.Abs
theorem ai {a b:Prop} (h:a) (k:b):a∧b:=⟨h,k⟩
theorem gp0:type_of% (ai @zE3 <| ai @zE4 <| ai @zE5 <| ai @zE6 <| ai @zE7 <| ai @zE8 <| ai @zE9 <| ai @zFa <| ai @zsg <| ai @zhS <| ai @zhT <| ai @zwn <| ai @zsh <| ai @zn7 <| ai @zsi <| @zsj):=ai @zE3 <| ai @zE4 <| ai @zE5 <| ai @zE6 <| ai @zE7 <| ai @zE8 <| ai @zE9 <| ai @zFa <| ai @zsg <| ai @zhS <| ai @zhT <| ai @zwn <| ai @zsh <| ai @zn7 <| ai @zsi <| @zsj
theorem gp1:type_of% (ai @zwo <| ai @zn8 <| ai @zsk <| ai @zwp <| ai @zsl <| ai @zsm <| ai @zwq <| ai @zgD <| ai @zjh <| ai @zsn <| ai @zn9 <| ai @zso <| ai @zoc <| ai @zof <| ai @zlj <| @zlk):=ai @zwo <| ai @zn8 <| ai @zsk <| ai @zwp <| ai @zsl <| ai @zsm <| ai @zwq <| ai @zgD <| ai @zjh <| ai @zsn <| ai @zn9 <| ai @zso <| ai @zoc <| ai @zof <| ai @zlj <| @zlk
theorem gp2:type_of% (ai @zjj <| ai @zsG <| ai @zfO <| ai @zfP <| ai @zeV <| ai @zd3 <| ai @zfQ <| ai @zfR <| ai @zsH <| ai @zwG <| ai @zBI <| ai @zjn <| ai @zsI <| ai @zgF <| ai @zjo <| @zgG):=ai @zjj <| ai @zsG <| ai @zfO <| ai @zfP <| ai @zeV <| ai @zd3 <| ai @zfQ <| ai @zfR <| ai @zsH <| ai @zwG <| ai @zBI <| ai @zjn <| ai @zsI <| ai @zgF <| ai @zjo <| @zgG
theorem gp3:type_of% (ai @zoo <| ai @zjp <| ai @zhU <| ai @zhV <| ai @zwH <| ai @zwI <| ai @zwJ <| ai @zls <| ai @zor <| ai @zfS <| ai @zos <| ai @zlG <| ai @zlA <| ai @zlC <| ai @zlB <| @zot):=ai @zoo <| ai @zjp <| ai @zhU <| ai @zhV <| ai @zwH <| ai @zwI <| ai @zwJ <| ai @zls <| ai @zor <| ai @zfS <| ai @zos <| ai @zlG <| ai @zlA <| ai @zlC <| ai @zlB <| @zot
theorem gp4:type_of% (ai @zwL <| ai @zfT <| ai @zow <| ai @zsR <| ai @zoz <| ai @ztF <| ai @zpn <| ai @ztG <| ai @zl5 <| ai @zjt <| ai @zju <| ai @zsT <| ai @zlz <| ai @zsU <| ai @zBM <| @zjv):=ai @zwL <| ai @zfT <| ai @zow <| ai @zsR <| ai @zoz <| ai @ztF <| ai @zpn <| ai @ztG <| ai @zl5 <| ai @zjt <| ai @zju <| ai @zsT <| ai @zlz <| ai @zsU <| ai @zBM <| @zjv
theorem gp5:type_of% (ai @zsV <| ai @zgM <| ai @zoG <| ai @zgN <| ai @zoH <| ai @zjw <| ai @zhW <| ai @zhX <| ai @zoI <| ai @zwR <| ai @zoQ <| ai @zoR <| ai @zs2 <| ai @zoS <| ai @zjC <| @zjD):=ai @zsV <| ai @zgM <| ai @zoG <| ai @zgN <| ai @zoH <| ai @zjw <| ai @zhW <| ai @zhX <| ai @zoI <| ai @zwR <| ai @zoQ <| ai @zoR <| ai @zs2 <| ai @zoS <| ai @zjC <| @zjD
theorem gp6:type_of% (ai @zhY <| ai @zfU <| ai @zoD <| ai @ztY <| ai @zpA <| ai @ztZ <| ai @zpC <| ai @zpB <| ai @zt0 <| ai @ztW <| ai @zpy <| ai @zt1 <| ai @zpF <| ai @zpG <| ai @zma <| @zxQ):=ai @zhY <| ai @zfU <| ai @zoD <| ai @ztY <| ai @zpA <| ai @ztZ <| ai @zpC <| ai @zpB <| ai @zt0 <| ai @ztW <| ai @zpy <| ai @zt1 <| ai @zpF <| ai @zpG <| ai @zma <| @zxQ
theorem gp7:type_of% (ai @ztX <| ai @zpz <| ai @zwX <| ai @zoT <| ai @zwY <| ai @zBR <| ai @zFi <| ai @zlJ <| ai @zwZ <| ai @zhZ <| ai @zs3 <| ai @zh0 <| ai @zs4 <| ai @zlK <| ai @zjE <| @zjF):=ai @ztX <| ai @zpz <| ai @zwX <| ai @zoT <| ai @zwY <| ai @zBR <| ai @zFi <| ai @zlJ <| ai @zwZ <| ai @zhZ <| ai @zs3 <| ai @zh0 <| ai @zs4 <| ai @zlK <| ai @zjE <| @zjF
theorem gp8:type_of% (ai @zBS <| ai @zBT <| ai @zBU <| ai @zoU <| ai @zoV <| ai @zoY <| ai @zs5 <| ai @zw0 <| ai @zBV <| ai @zoX <| ai @zjG <| ai @zoZ <| ai @zs6 <| ai @zw1 <| ai @zh1 <| @zo0):=ai @zBS <| ai @zBT <| ai @zBU <| ai @zoU <| ai @zoV <| ai @zoY <| ai @zs5 <| ai @zw0 <| ai @zBV <| ai @zoX <| ai @zjG <| ai @zoZ <| ai @zs6 <| ai @zw1 <| ai @zh1 <| @zo0
theorem gp9:type_of% (ai @zs7 <| ai @zBW <| ai @zgO <| ai @zs8 <| ai @zw2 <| @zz3):=ai @zs7 <| ai @zBW <| ai @zgO <| ai @zs8 <| ai @zw2 <| @zz3
theorem gp:type_of% (ai @gp0 <| ai @gp1 <| ai @gp2 <| ai @gp3 <| ai @gp4 <| ai @gp5 <| ai @gp6 <| ai @gp7 <| ai @gp8 <| @gp9):=ai @gp0 <| ai @gp1 <| ai @gp2 <| ai @gp3 <| ai @gp4 <| ai @gp5 <| ai @gp6 <| ai @gp7 <| ai @gp8 <| @gp9
theorem gq0:type_of% (ai @zE2 <| ai @zBw <| ai @zwj <| ai @zwk <| ai @zse <| ai @zBx <| ai @zwl <| ai @zwm <| ai @zsf <| ai @zaQ <| ai @zbp <| ai @ziF <| ai @zfN <| ai @zsa <| ai @zaV <| @zaw):=ai @zE2 <| ai @zBw <| ai @zwj <| ai @zwk <| ai @zse <| ai @zBx <| ai @zwl <| ai @zwm <| ai @zsf <| ai @zaQ <| ai @zbp <| ai @ziF <| ai @zfN <| ai @zsa <| ai @zaV <| @zaw
theorem gq1:type_of% (ai @zgy <| ai @zgz <| ai @zmP <| ai @zsb <| ai @zwi <| ai @zsc <| ai @zmQ <| ai @zgA <| ai @zsd <| ai @zBv <| ai @zmR <| ai @zmS <| ai @zgB <| ai @zgC <| ai @ziG <| @ziH):=ai @zgy <| ai @zgz <| ai @zmP <| ai @zsb <| ai @zwi <| ai @zsc <| ai @zmQ <| ai @zgA <| ai @zsd <| ai @zBv <| ai @zmR <| ai @zmS <| ai @zgB <| ai @zgC <| ai @ziG <| @ziH
theorem gq2:type_of% (ai @ziI <| ai @zli <| ai @zBy <| ai @zBz <| ai @zBA <| ai @zBB <| ai @zwA <| ai @zod <| ai @zss <| ai @zoe <| ai @zBE <| ai @getElem?_zero <| ai @getElem?_succ <| ai @zog <| ai @zw3 <| @zw4):=ai @ziI <| ai @zli <| ai @zBy <| ai @zBz <| ai @zBA <| ai @zBB <| ai @zwA <| ai @zod <| ai @zss <| ai @zoe <| ai @zBE <| ai @getElem?_zero <| ai @getElem?_succ <| ai @zog <| ai @zw3 <| @zw4
theorem gq3:type_of% (ai @zw5 <| ai @zw6 <| ai @zw7 <| ai @zw8 <| ai @zBX <| ai @zw9 <| ai @zlL <| ai @zxa <| ai @zxb <| ai @zxc <| ai @zxd <| ai @zxe <| ai @zxf <| ai @zxg <| ai @zxh <| @zjH):=ai @zw5 <| ai @zw6 <| ai @zw7 <| ai @zw8 <| ai @zBX <| ai @zw9 <| ai @zlL <| ai @zxa <| ai @zxb <| ai @zxc <| ai @zxd <| ai @zxe <| ai @zxf <| ai @zxg <| ai @zxh <| @zjH
theorem gq4:type_of% (ai @zjI <| ai @zjJ <| ai @zh2 <| ai @zh3 <| ai @zBY <| ai @zBZ <| ai @zs9 <| ai @zxi <| ai @zlM <| ai @zlO <| ai @zlN <| ai @zB0 <| ai @zxj <| ai @zB1 <| ai @zxk <| @zlP):=ai @zjI <| ai @zjJ <| ai @zh2 <| ai @zh3 <| ai @zBY <| ai @zBZ <| ai @zs9 <| ai @zxi <| ai @zlM <| ai @zlO <| ai @zlN <| ai @zB0 <| ai @zxj <| ai @zB1 <| ai @zxk <| @zlP
theorem gq5:type_of% (ai @zlQ <| ai @zlR <| ai @zFl <| ai @zFm <| ai @zB2 <| ai @zxm <| ai @zB3 <| ai @zo2 <| ai @zo1 <| ai @zFn <| ai @zFo <| ai @zFp <| ai @zFq <| ai @zB5 <| ai @zFr <| @zFs):=ai @zlQ <| ai @zlR <| ai @zFl <| ai @zFm <| ai @zB2 <| ai @zxm <| ai @zB3 <| ai @zo2 <| ai @zo1 <| ai @zFn <| ai @zFo <| ai @zFp <| ai @zFq <| ai @zB5 <| ai @zFr <| @zFs
theorem gq6:type_of% (ai @zFt <| ai @zFu <| ai @zxn <| ai @List.drop_succ_cons.{0} <| ai @List.drop_zero.{0} <| ai @List.take_succ_cons.{0} <| ai @List.take_zero.{0} <| ai @zuR <| ai @zB4 <| ai @zta <| ai @ztc <| ai @zeW <| ai @zgP <| ai @zo3 <| ai @zo4 <| @ztd):=ai @zFt <| ai @zFu <| ai @zxn <| ai @List.drop_succ_cons.{0} <| ai @List.drop_zero.{0} <| ai @List.take_succ_cons.{0} <| ai @List.take_zero.{0} <| ai @zuR <| ai @zB4 <| ai @zta <| ai @ztc <| ai @zeW <| ai @zgP <| ai @zo3 <| ai @zo4 <| @ztd
theorem gq7:type_of% (ai @zte <| ai @zjL <| ai @zo5 <| ai @zlS <| ai @zo6 <| ai @zlT <| ai @ztf <| ai @zo7 <| ai @ztg <| ai @zo8 <| ai @zth <| ai @zB6 <| ai @zti <| ai @ztj <| ai @zwb <| @zwa):=ai @zte <| ai @zjL <| ai @zo5 <| ai @zlS <| ai @zo6 <| ai @zlT <| ai @ztf <| ai @zo7 <| ai @ztg <| ai @zo8 <| ai @zth <| ai @zB6 <| ai @zti <| ai @ztj <| ai @zwb <| @zwa
theorem gq8:type_of% (ai @zwd <| ai @zwc <| ai @zr8 <| ai @zr7 <| ai @zlU <| ai @zlV <| ai @zxs <| ai @ztq <| ai @ztr <| ai @zpa <| ai @zpb <| ai @zlX <| ai @zlY <| ai @zpc <| ai @zB8 <| @zxt):=ai @zwd <| ai @zwc <| ai @zr8 <| ai @zr7 <| ai @zlU <| ai @zlV <| ai @zxs <| ai @ztq <| ai @ztr <| ai @zpa <| ai @zpb <| ai @zlX <| ai @zlY <| ai @zpc <| ai @zB8 <| @zxt
theorem gq9:type_of% (ai @zxu <| ai @zts <| ai @zjO <| ai @zjP <| ai @ztv <| ai @zpf <| ai @zpe <| ai @zlZ <| ai @zl0 <| ai @zl1 <| ai @zl2 <| ai @zxv <| ai @ztu <| ai @zpd <| ai @zB9 <| @zxw):=ai @zxu <| ai @zts <| ai @zjO <| ai @zjP <| ai @ztv <| ai @zpf <| ai @zpe <| ai @zlZ <| ai @zl0 <| ai @zl1 <| ai @zl2 <| ai @zxv <| ai @ztu <| ai @zpd <| ai @zB9 <| @zxw
theorem zHz:type_of% (ai @zpg <| ai @ztw <| ai @ztx <| ai @zty <| ai @List.length_cons.{0} <| ai @List.length_nil.{0} <| ai @List.not_mem_nil.{0} <| ai @List.mem_cons.{0} <| ai @or_false <| ai @append_eq <| ai @ztz <| ai @zlu <| ai @ztA <| ai @ztB <| ai @zl3 <| @zl4):=ai @zpg <| ai @ztw <| ai @ztx <| ai @zty <| ai @List.length_cons.{0} <| ai @List.length_nil.{0} <| ai @List.not_mem_nil.{0} <| ai @List.mem_cons.{0} <| ai @or_false <| ai @append_eq <| ai @ztz <| ai @zlu <| ai @ztA <| ai @ztB <| ai @zl3 <| @zl4
theorem zHA:type_of% (ai @zxy <| ai @zxz <| ai @zxA <| ai @ztC <| ai @zFx <| ai @zxG <| ai @zhn <| ai @zc4 <| ai @ziO <| ai @zpq <| ai @zpr <| ai @zps <| ai @zpt <| ai @zpu <| ai @imm_ag <| @imm_tup):=ai @zxy <| ai @zxz <| ai @zxA <| ai @ztC <| ai @zFx <| ai @zxG <| ai @zhn <| ai @zc4 <| ai @ziO <| ai @zpq <| ai @zpr <| ai @zps <| ai @zpt <| ai @zpu <| ai @imm_ag <| @imm_tup
theorem zHB:type_of% (ai @zxH <| ai @ztM <| ai @zxI <| ai @ztN <| ai @zpv <| ai @zCa <| ai @zCb <| ai @zl8 <| ai @ztO <| ai @ztP <| ai @zCc <| ai @zCd <| ai @ztQ <| ai @zpw <| ai @zjS <| @ztR):=ai @zxH <| ai @ztM <| ai @zxI <| ai @ztN <| ai @zpv <| ai @zCa <| ai @zCb <| ai @zl8 <| ai @ztO <| ai @ztP <| ai @zCc <| ai @zCd <| ai @ztQ <| ai @zpw <| ai @zjS <| @ztR
theorem zHC:type_of% (ai @zxJ <| ai @zxK <| ai @ztT <| ai @ztU <| ai @zjX <| ai @zjW <| ai @zjY <| ai @zop <| ai @zlt <| ai @zwM <| ai @zsP <| ai @zBJ <| ai @zsJ <| ai @zsL <| ai @zwO <| @zoy):=ai @zxJ <| ai @zxK <| ai @ztT <| ai @ztU <| ai @zjX <| ai @zjW <| ai @zjY <| ai @zop <| ai @zlt <| ai @zwM <| ai @zsP <| ai @zBJ <| ai @zsJ <| ai @zsL <| ai @zwO <| @zoy
theorem zHD:type_of% (ai @zox <| ai @zlr <| ai @zjg <| ai @zn1 <| ai @zce <| ai @zn2 <| ai @zhj <| ai @zn3 <| ai @zv8 <| ai @zmN <| ai @zn5 <| ai @zmO <| ai @zlg <| ai @zn4 <| ai @zv9 <| @zBm):=ai @zox <| ai @zlr <| ai @zjg <| ai @zn1 <| ai @zce <| ai @zn2 <| ai @zhj <| ai @zn3 <| ai @zv8 <| ai @zmN <| ai @zn5 <| ai @zmO <| ai @zlg <| ai @zn4 <| ai @zv9 <| @zBm
theorem zHE:type_of% (ai @zBn <| ai @zBo <| ai @zBp <| ai @zBq <| ai @zBr <| ai @zwe <| ai @zBs <| ai @zBl <| ai @zBt <| ai @zwf <| ai @zeT <| ai @zeU <| ai @zwh <| ai @zr9 <| ai @zlh <| @zn6):=ai @zBn <| ai @zBo <| ai @zBp <| ai @zBq <| ai @zBr <| ai @zwe <| ai @zBs <| ai @zBl <| ai @zBt <| ai @zwf <| ai @zeT <| ai @zeU <| ai @zwh <| ai @zr9 <| ai @zlh <| @zn6
theorem zHF:type_of% (ai @List.map_nil.{0,0} <| ai @List.map_cons.{0,0} <| ai @List.append_nil.{0} <| ai @List.nil_append.{0} <| ai @List.cons_append.{0} <| ai @List.getElem?_cons_zero.{0} <| ai @List.getElem?_cons_succ.{0} <| ai @ne_eq.{1} <| ai @not_false_eq_true <| ai @not_true_eq_false <| ai @true_and <| ai @and_true <| ai @false_and <| ai @and_false <| ai @and_self <| @true_implies):=ai @List.map_nil.{0,0} <| ai @List.map_cons.{0,0} <| ai @List.append_nil.{0} <| ai @List.nil_append.{0} <| ai @List.cons_append.{0} <| ai @List.getElem?_cons_zero.{0} <| ai @List.getElem?_cons_succ.{0} <| ai @ne_eq.{1} <| ai @not_false_eq_true <| ai @not_true_eq_false <| ai @true_and <| ai @and_true <| ai @false_and <| ai @and_false <| ai @and_self <| @true_implies
theorem zHG:type_of% (ai @Bool.not_true <| ai @Bool.not_false <| ai @eq_self.{1} <| ai @Bool.true_eq_false <| ai @Bool.false_eq_true <| ai @false_implies <| ai @implies_true.{0} <| ai @implies_true.{1} <| ai @zxF <| ai @Int.le_refl <| ai @Nat.le_refl <| ai @Int.toNat_natCast <| ai @Int.natCast_nonneg <| ai @Int.ofNat_lt <| ai @Int.ofNat_le <| @PV.v.injEq):=ai @Bool.not_true <| ai @Bool.not_false <| ai @eq_self.{1} <| ai @Bool.true_eq_false <| ai @Bool.false_eq_true <| ai @false_implies <| ai @implies_true.{0} <| ai @implies_true.{1} <| ai @zxF <| ai @Int.le_refl <| ai @Nat.le_refl <| ai @Int.toNat_natCast <| ai @Int.natCast_nonneg <| ai @Int.ofNat_lt <| ai @Int.ofNat_le <| @PV.v.injEq
theorem zHH:type_of% (ai @Value.bool.injEq <| ai @Value.int.injEq <| ai @Value.string.injEq <| ai @List.nodup_nil.{0} <| ai @zpk <| ai @zpl <| ai @beq_self_eq_true.{0} <| ai @decide_eq_true_eq <| ai @decide_eq_false_iff_not <| ai @zsS <| ai @zoA <| ai @zjs <| ai @zlx <| ai @zjr <| ai @zoB <| @zly):=ai @Value.bool.injEq <| ai @Value.int.injEq <| ai @Value.string.injEq <| ai @List.nodup_nil.{0} <| ai @zpk <| ai @zpl <| ai @beq_self_eq_true.{0} <| ai @decide_eq_true_eq <| ai @decide_eq_false_iff_not <| ai @zsS <| ai @zoA <| ai @zjs <| ai @zlx <| ai @zjr <| ai @zoB <| @zly
theorem zHI:type_of% (ai @zoC <| ai @zBL <| ai @zwQ <| ai @zoE <| ai @zoF <| ai @zsN <| ai @zoq <| ai @ziQ <| ai @ziR <| ai @ztV <| ai @zAc <| ai @zAd <| ai @zxN <| ai @zxO <| ai @zm0 <| @zm1):=ai @zoC <| ai @zBL <| ai @zwQ <| ai @zoE <| ai @zoF <| ai @zsN <| ai @zoq <| ai @ziQ <| ai @ziR <| ai @ztV <| ai @zAc <| ai @zAd <| ai @zxN <| ai @zxO <| ai @zm0 <| @zm1
theorem zHJ:type_of% (ai @ztH <| ai @ztI <| ai @zpo <| ai @ztJ <| ai @ztK <| ai @ztL <| ai @zl7 <| ai @zl6 <| ai @zpp <| ai @zou <| ai @zlv <| ai @zov <| ai @zlw <| ai @if_true.{1} <| ai @if_false.{1} <| @Nat.zero_le):=ai @ztH <| ai @ztI <| ai @zpo <| ai @ztJ <| ai @ztK <| ai @ztL <| ai @zl7 <| ai @zl6 <| ai @zpp <| ai @zou <| ai @zlv <| ai @zov <| ai @zlw <| ai @if_true.{1} <| ai @if_false.{1} <| @Nat.zero_le
theorem zHK:type_of% (ai @Bool.true_and <| ai @Bool.and_true <| ai @Bool.and_self <| ai @zmT <| ai @zmU <| ai @zmV <| ai @ziJ <| ai @zsQ <| ai @ziK <| ai @ziL <| ai @ziM <| ai @ziN <| ai @zgH <| ai @zgI <| ai @zgJ <| @zgK):=ai @Bool.true_and <| ai @Bool.and_true <| ai @Bool.and_self <| ai @zmT <| ai @zmU <| ai @zmV <| ai @ziJ <| ai @zsQ <| ai @ziK <| ai @ziL <| ai @ziM <| ai @ziN <| ai @zgH <| ai @zgI <| ai @zgJ <| @zgK
theorem zHL:type_of% (ai @zoa <| ai @zFb <| ai @zFc <| ai @zst <| ai @zBF <| ai @zwB <| ai @zoh <| ai @zsu <| ai @zsv <| ai @zoi <| ai @zsw <| ai @zsx <| ai @zwC <| ai @zsy <| ai @zBG <| @zwD):=ai @zoa <| ai @zFb <| ai @zFc <| ai @zst <| ai @zBF <| ai @zwB <| ai @zoh <| ai @zsu <| ai @zsv <| ai @zoi <| ai @zsw <| ai @zsx <| ai @zwC <| ai @zsy <| ai @zBG <| @zwD
theorem zHM:type_of% (ai @zoj <| ai @zsz <| ai @zsA <| ai @zsB <| ai @zsC <| ai @zok <| ai @zBH <| ai @zwE <| ai @zol <| ai @zom <| ai @zsD <| ai @zll <| ai @zlm <| ai @zln <| ai @zwF <| @zsE):=ai @zoj <| ai @zsz <| ai @zsA <| ai @zsB <| ai @zsC <| ai @zok <| ai @zBH <| ai @zwE <| ai @zol <| ai @zom <| ai @zsD <| ai @zll <| ai @zlm <| ai @zln <| ai @zwF <| @zsE
theorem zHN:type_of% (ai @zsF <| ai @zlo <| ai @zlp <| ai @zlq <| ai @zBC <| ai @zws <| ai @zwt <| ai @zsp <| ai @zsq <| ai @zob <| ai @zwu <| ai @zsr <| ai @zwv <| ai @zBD <| ai @zww <| @zwx):=ai @zsF <| ai @zlo <| ai @zlp <| ai @zlq <| ai @zBC <| ai @zws <| ai @zwt <| ai @zsp <| ai @zsq <| ai @zob <| ai @zwu <| ai @zsr <| ai @zwv <| ai @zBD <| ai @zww <| @zwx
theorem zHO:type_of% (ai @zwy <| ai @zwz <| ai @Bool.or_false <| ai @Bool.false_or <| ai @Bool.or_self <| ai @Bool.or_true <| ai @Bool.true_or <| ai @Bool.false_and <| ai @Bool.and_false <| ai @ztk <| ai @zxo <| ai @ztl <| ai @ztm <| ai @ztn <| ai @zxp <| @zlW):=ai @zwy <| ai @zwz <| ai @Bool.or_false <| ai @Bool.false_or <| ai @Bool.or_self <| ai @Bool.or_true <| ai @Bool.true_or <| ai @Bool.false_and <| ai @Bool.and_false <| ai @ztk <| ai @zxo <| ai @ztl <| ai @ztm <| ai @ztn <| ai @zxp <| @zlW
theorem zHP:type_of% (ai @zxq <| ai @zB7 <| ai @ztp <| ai @zjM <| ai @zo9 <| ai @zph <| ai @zpi <| ai @zpj <| ai @ztD <| ai @zxB <| ai @zxC <| ai @zxD <| ai @zxE <| ai @ztE <| ai @zpx <| @ztS):=ai @zxq <| ai @zB7 <| ai @ztp <| ai @zjM <| ai @zo9 <| ai @zph <| ai @zpi <| ai @zpj <| ai @ztD <| ai @zxB <| ai @zxC <| ai @zxD <| ai @zxE <| ai @ztE <| ai @zpx <| @ztS
theorem zHQ:type_of% (ai @zjU <| ai @zjV <| ai @zBO <| ai @zwS <| ai @zwT <| ai @zoJ <| ai @zsW <| ai @zsY <| ai @zlE <| ai @zlD <| ai @zlF <| ai @zjy <| ai @zjx <| ai @zsZ <| ai @zwU <| @zlH):=ai @zjU <| ai @zjV <| ai @zBO <| ai @zwS <| ai @zwT <| ai @zoJ <| ai @zsW <| ai @zsY <| ai @zlE <| ai @zlD <| ai @zlF <| ai @zjy <| ai @zjx <| ai @zsZ <| ai @zwU <| @zlH
theorem zHR:type_of% (ai @zs0 <| ai @zoK <| ai @zoL <| ai @zBQ <| ai @zwW <| ai @zs1 <| ai @zjz <| ai @zjA <| ai @zjB <| ai @zoM <| ai @zoO <| ai @zoP <| ai @zlI <| ai @zj0 <| ai @zGc <| @zAe):=ai @zs0 <| ai @zoK <| ai @zoL <| ai @zBQ <| ai @zwW <| ai @zs1 <| ai @zjz <| ai @zjA <| ai @zjB <| ai @zoM <| ai @zoO <| ai @zoP <| ai @zlI <| ai @zj0 <| ai @zGc <| @zAe
theorem zHS:type_of% (ai @zau <| ai @zgR <| ai @zfq <| ai @zgS <| ai @zpD <| ai @zl9 <| ai @zxP <| ai @zpE <| ai @ziS <| ai @ziT <| ai @zm2 <| ai @zei <| ai @zeY <| ai @zdl <| ai @zeZ <| @zd4):=ai @zau <| ai @zgR <| ai @zfq <| ai @zgS <| ai @zpD <| ai @zl9 <| ai @zxP <| ai @zpE <| ai @ziS <| ai @ziT <| ai @zm2 <| ai @zei <| ai @zeY <| ai @zdl <| ai @zeZ <| @zd4
theorem zHT:type_of% (ai @List.length_set.{0} <| ai @List.length_range <| ai @zgT <| ai @zgU <| ai @zjm <| ai @zon <| ai @zj2 <| @zCe):=ai @List.length_set.{0} <| ai @List.length_range <| ai @zgT <| ai @zgU <| ai @zjm <| ai @zon <| ai @zj2 <| @zCe
theorem gq:type_of% (ai @gq0 <| ai @gq1 <| ai @gq2 <| ai @gq3 <| ai @gq4 <| ai @gq5 <| ai @gq6 <| ai @gq7 <| ai @gq8 <| ai @gq9 <| ai @zHz <| ai @zHA <| ai @zHB <| ai @zHC <| ai @zHD <| ai @zHE <| ai @zHF <| ai @zHG <| ai @zHH <| ai @zHI <| ai @zHJ <| ai @zHK <| ai @zHL <| ai @zHM <| ai @zHN <| ai @zHO <| ai @zHP <| ai @zHQ <| ai @zHR <| ai @zHS <| @zHT):=ai @gq0 <| ai @gq1 <| ai @gq2 <| ai @gq3 <| ai @gq4 <| ai @gq5 <| ai @gq6 <| ai @gq7 <| ai @gq8 <| ai @gq9 <| ai @zHz <| ai @zHA <| ai @zHB <| ai @zHC <| ai @zHD <| ai @zHE <| ai @zHF <| ai @zHG <| ai @zHH <| ai @zHI <| ai @zHJ <| ai @zHK <| ai @zHL <| ai @zHM <| ai @zHN <| ai @zHO <| ai @zHP <| ai @zHQ <| ai @zHR <| ai @zHS <| @zHT
theorem gr0:type_of% (ai @zaQ <| ai @zbp <| ai @ziF <| ai @zfN <| ai @zsa <| ai @zaV <| ai @zaw <| ai @zgy <| ai @zgz <| ai @zmP <| ai @ziH <| ai @ziI <| ai @zc4 <| ai @ziO <| ai @zmR <| @zmS):=ai @zaQ <| ai @zbp <| ai @ziF <| ai @zfN <| ai @zsa <| ai @zaV <| ai @zaw <| ai @zgy <| ai @zgz <| ai @zmP <| ai @ziH <| ai @ziI <| ai @zc4 <| ai @ziO <| ai @zmR <| @zmS
theorem gr1:type_of% (ai @zgB <| ai @zgC <| ai @ziG <| ai @zsb <| ai @zsc <| ai @zmQ <| ai @zgA <| ai @ne_eq.{1} <| ai @not_false_eq_true <| ai @not_true_eq_false <| ai @List.mem_cons.{0} <| ai @List.not_mem_nil.{0} <| ai @or_false <| ai @if_true.{1} <| ai @if_false.{1} <| @ziQ):=ai @zgB <| ai @zgC <| ai @ziG <| ai @zsb <| ai @zsc <| ai @zmQ <| ai @zgA <| ai @ne_eq.{1} <| ai @not_false_eq_true <| ai @not_true_eq_false <| ai @List.mem_cons.{0} <| ai @List.not_mem_nil.{0} <| ai @or_false <| ai @if_true.{1} <| ai @if_false.{1} <| @ziQ
theorem gr2:type_of% (ai @ziR <| ai @ztV <| ai @zAc <| ai @zAd <| ai @zm0 <| ai @zm1 <| ai @List.nil_append.{0} <| ai @List.cons_append.{0} <| ai @List.append_nil.{0} <| ai @zmT <| ai @zmU <| ai @zmV <| ai @ziJ <| ai @zsQ <| ai @ziK <| @ziL):=ai @ziR <| ai @ztV <| ai @zAc <| ai @zAd <| ai @zm0 <| ai @zm1 <| ai @List.nil_append.{0} <| ai @List.cons_append.{0} <| ai @List.append_nil.{0} <| ai @zmT <| ai @zmU <| ai @zmV <| ai @ziJ <| ai @zsQ <| ai @ziK <| @ziL
theorem gr3:type_of% (ai @ziM <| ai @ziN <| ai @zgH <| ai @zgI <| ai @zgJ <| ai @zgK <| ai @zGc <| ai @zAe <| ai @zau <| ai @zgR <| ai @zfq <| ai @zgS <| ai @ziS <| ai @ziT <| ai @zm2 <| @zei):=ai @ziM <| ai @ziN <| ai @zgH <| ai @zgI <| ai @zgJ <| ai @zgK <| ai @zGc <| ai @zAe <| ai @zau <| ai @zgR <| ai @zfq <| ai @zgS <| ai @ziS <| ai @ziT <| ai @zm2 <| @zei
theorem gr4:type_of% (ai @zeY <| ai @zdl <| ai @zeZ <| ai @zd4 <| ai @List.length_set.{0} <| ai @List.length_range <| ai @zgT <| @zgU):=ai @zeY <| ai @zdl <| ai @zeZ <| ai @zd4 <| ai @List.length_set.{0} <| ai @List.length_range <| ai @zgT <| @zgU
theorem gr:type_of% (ai @gr0 <| ai @gr1 <| ai @gr2 <| ai @gr3 <| @gr4):=ai @gr0 <| ai @gr1 <| ai @gr2 <| ai @gr3 <| @gr4
end Go.Abs

/- DERIVED by an AI agent. Tables: numbers of inner rows, their cells; a row that becomes a table's. No program in sight. -/
namespace Go.Abs
set_option linter.unusedSimpArgs false
def zkT (k n i:Nat):List PV:=(List.range n).map fun t=>if t < i then .own (sid k t) 1 else .v (.slice none 0 0)
theorem zyI (k n:Nat):List.replicate n (PV.v (.slice none 0 0)) = zkT k n 0:=by
 refine List.ext_getElem (by simp [zkT]) fun t a b=>by simp [zkT]
theorem zkx (k n i:Nat):(zkT k n i).length = n:=by simp [zkT]
theorem zAG (k n:Nat):zkT k n n = zaI k (List.range n):=by
 refine List.ext_getElem (by simp [zkT,zaI]) fun t a b=>?_
 have:t < n:=by simpa [zkT] using a
 simp [zkT,zaI,this]
theorem zAH [zah] {k n i d v:Nat} (h:i < n):(zkT k n (i + 1)).length = (spl (zkT k n i) i [.own d v]).length ∧
 ∀ t (a:t < (spl (zkT k n i) i [PV.own d v]).length) (b:t < (zkT k n (i + 1)).length),(zkT k n (i + 1))[t] = (spl (zkT k n i) i [PV.own d v])[t] ∨ ((spl (zkT k n i) i [PV.own d v])[t] = .own d v∧(zkT k n (i + 1))[t] = .own (sid k i) 1):=by
 rw [zC3 (by rw [zkx];exact h)]
 refine ⟨by simp [zkx],fun t a b=>?_⟩
 rw [List.getElem_set]
 by_cases he:i = t
 ·subst he
  rw [if_pos rfl]
  refine .inr ⟨rfl,?_⟩
  simp [zkT]
 ·rw [if_neg he]
  refine .inl ?_
  simp only [zkT,List.getElem_map,List.getElem_range]
  by_cases ht:t < i
  ·rw [if_pos ht,if_pos (by omega)]
  ·rw [if_neg ht,if_neg (by omega)]
section
variable {P:Program} {T:Tab} {s:St}
theorem Wk.tab [zah] {k v e:Nat} {c:List PV} (hk:s.rw k = ⟨v,.sli e 1 false c⟩) (hc:zco c):Wk s (s.row k ⟨v,.tab e c⟩):=by
 intro G a w ⟨E,hs⟩
 have hR:E.R k = ⟨v,.sli e 1 false c⟩:=by rw [hs.rw];exact hk
 have ht:OneTurn E w w k ⟨v,.tab e c⟩ (E.rm k) (E.rv k) :=
  ⟨fun _ _ _=>rfl,fun b hb _=>.inr ⟨hb,by rw [hR];rfl,fun _=>by rw [hR];rfl⟩,by rw [hR];exact Nat.le_refl _,
   fun _ _=>⟨by rw [hR];rfl,rfl⟩,fun _ _=>⟨by rw [hR];rfl,rfl⟩,fun _=>by have:=hs.wok.pos k (by rw [hR];rfl);rw [hR] at this;exact this,Nat.le_refl _,rfl,rfl,⟨rfl,fun _=>by first | exact Nat.le_refl _ | exact Nat.le_succ _⟩⟩
 have hturn:=ht.turn (fz:=[]) hs.wok
 have hrows:=ht.rows (fz:=[]) hs.wok (fun j hj=>by cases hj) (fun hl=>by
  have hrow:=hs.wok.rows k
  unfold zaz at hrow ⊢
  rw [hR] at hrow
  simp only [Env.turn,zai]
  rcases hrow with h | ⟨b,n,cap,vs,rest,h1,h2,h3,h4,h5,h6,h7,h8,h9⟩
  ·exact .inl h
  ·exact .inr ⟨b,n,cap,vs,rest,h1,h2,h3,h4,by omega,h6,h7,by omega,zcS hc h9⟩)
 have:=hturn.sim hs hrows
 refine ⟨E.turn [] k ⟨v,.tab e c⟩ (E.rm k) (E.rv k),?_⟩
 have e:({ s with rw:=(E.turn [] k ⟨v,.tab e c⟩ (E.rm k) (E.rv k)).R }:St) = s.row k ⟨v,.tab e c⟩:=by
  have hf:zg0 E.R [] = E.R:=zfv E.R
  simp only [Env.turn,hf,hs.rw]
  rfl
 rw [e] at this
 exact this
theorem Wk.ren [zah] {d k k' v vk e et sz:Nat} {c cs cs':List PV} (hd:s.rw d = ⟨v,.sli e sz false c⟩) (hk:s.rw k = ⟨vk,.tab et cs⟩) (hk':s.rw k' = ⟨0,.dead⟩) (hdl:d < lent)
 (hcs:cs'.length = cs.length∧∀ i (a:i < cs.length) (b:i < cs'.length),cs'[i] = cs[i] ∨ (cs[i] = .own d v∧cs'[i] = .own k' 1)) :
 Wk s (((s.row d ⟨v + 1,.dead⟩).row k' ⟨1,.sli e sz false c⟩).row k ⟨vk,.tab et cs'⟩):=by
 intro G a w ⟨E,hs⟩
 have hRd:E.R d = ⟨v,.sli e sz false c⟩:=by rw [hs.rw];exact hd
 have hRk:E.R k = ⟨vk,.tab et cs⟩:=by rw [hs.rw];exact hk
 have hRk':E.R k' = ⟨0,.dead⟩:=by rw [hs.rw];exact hk'
 have ndk:d ≠ k:=fun e=>by rw [e,hRk] at hRd;cases hRd
 have ndk':d ≠ k':=fun e=>by rw [e,hRk'] at hRd;cases hRd
 have nkk':k ≠ k':=fun e=>by rw [e,hRk'] at hRk;cases hRk
 let R':Nat→Row:=zcw (zcw (zcw E.R d ⟨v + 1,.dead⟩) k' ⟨1,.sli e sz false c⟩) k ⟨vk,.tab et cs'⟩
 let rm':Nat→Option Nat:=zcw (zcw E.rm d none) k' (E.rm d)
 let rv':Nat→Value:=zcw E.rv k' (E.rv d)
 let E':Env:={ R:=R',rm:=rm',rv:=rv',L:=mkL E.X R' rm',B:=E.B,X:=E.X }
 have Rk:E'.R k = ⟨vk,.tab et cs'⟩:=zai _ _ _
 have Rk':E'.R k' = ⟨1,.sli e sz false c⟩:=by show R' k' = _;simp only [R'];rw [zan _ _ (Ne.symm nkk'),zai]
 have Rd:E'.R d = ⟨v + 1,.dead⟩:=by show R' d = _;simp only [R'];rw [zan _ _ ndk,zan _ _ ndk',zai]
 have Ro:∀ j,j ≠ d→j ≠ k→j ≠ k'→E'.R j = E.R j:=fun j h1 h2 h3=>by show R' j = _;simp only [R'];rw [zan _ _ h2,zan _ _ h3,zan _ _ h1]
 have Mk':E'.rm k' = E.rm d:=zai _ _ _
 have Md:E'.rm d = none:=by show rm' d = _;simp only [rm'];rw [zan _ _ ndk',zai]
 have Mo:∀ j,j ≠ d→j ≠ k'→E'.rm j = E.rm j:=fun j h1 h3=>by show rm' j = _;simp only [rm'];rw [zan _ _ h3,zan _ _ h1]
 have Vk':E'.rv k' = E.rv d:=zai _ _ _
 have Vo:∀ j,j ≠ k'→E'.rv j = E.rv j:=fun j h=>zan _ _ h
 have hL:∀ b,E'.L b ↔ E.L b:=by
  intro b
  rw [hs.wok.live]
  constructor
  ·rintro (⟨j,h1,h2⟩ | hX)
   rotate_left
   ·exact .inr hX
   refine .inl ?_
   have h1:E'.rm j = some b:=h1
   have h2:(E'.R j).kind.live = true:=h2
   by_cases jk':j = k'
   ·subst jk';rw [Mk'] at h1;exact ⟨d,h1,by rw [hRd];rfl⟩
   ·by_cases jd:j = d
    ·subst jd;rw [Md] at h1;cases h1
    ·rw [Mo j jd jk'] at h1
     by_cases jk:j = k
     ·subst jk;exact ⟨j,h1,by rw [hRk];rfl⟩
     ·rw [Ro j jd jk jk'] at h2;exact ⟨j,h1,h2⟩
  ·rintro (⟨j,h1,h2⟩ | hX)
   rotate_left
   ·exact .inr hX
   refine .inl ?_
   by_cases jk':j = k'
   ·subst jk';rw [hRk'] at h2;cases h2
   ·by_cases jd:j = d
    ·subst jd;exact ⟨k',by show E'.rm k' = some b;rw [Mk'];exact h1,by show (E'.R k').kind.live = true;rw [Rk'];rfl⟩
    ·by_cases jk:j = k
     ·subst jk;exact ⟨j,by show E'.rm j = some b;rw [Mo j jd jk'];exact h1,by show (E'.R j).kind.live = true;rw [Rk];rfl⟩
     ·exact ⟨j,by show E'.rm j = some b;rw [Mo j jd jk'];exact h1,by show (E'.R j).kind.live = true;rw [Ro j jd jk jk'];exact h2⟩
 have hl:Lasts w w E E':=by
  refine ⟨fun b _ h=>⟨rfl,fun h'=>h ((hL b).1 h')⟩,fun j=>?_,fun j he hs'=>?_,fun j he hs'=>?_,Nat.le_refl _⟩
  all_goals
   by_cases jk':j = k'
   ·subst jk'
    first
     | (rw [hRk'];exact Nat.zero_le _)
     | (rw [Rk',hRk'] at he;cases he)
   ·by_cases jd:j = d
    ·subst jd
     first
      | (rw [Rd,hRd];exact Nat.le_succ _)
      | (rw [Rd] at hs';cases hs')
    ·by_cases jk:j = k
     ·subst jk
      first
       | (rw [Rk,hRk];exact Nat.le_refl _)
       | exact ⟨by rw [hRk];rfl,Vo j jk'⟩
       | exact ⟨by rw [hRk];rfl,Mo j jd jk'⟩
     ·first
       | (rw [Ro j jd jk jk'];exact Nat.le_refl _)
       | (rw [Ro j jd jk jk'] at hs';exact ⟨hs',Vo j jk'⟩)
       | (rw [Ro j jd jk jk'] at hs';exact ⟨hs',Mo j jd jk'⟩)
 have hwok:WOk G E' w:=by
  refine ⟨fun j=>?_,fun j j' b n1 n2 e1 e2=>?_,fun b=>Iff.rfl,fun j hn=>?_,hs.wok.base,hs.wok.xs,hs.wok.fx,fun j b hn hb=>?_,hs.wok.kept,fun j=>?_⟩
  ·by_cases jk':j = k'
   ·subst jk'
    have hrow:=hs.wok.rows d
    unfold zaz at hrow ⊢
    rw [hRd] at hrow
    rw [Rk',Mk',Vk']
    rcases hrow with h | ⟨b,n,cap,vs,rest,h1,h2,h3,h4,h5,h6,h7,h8,h9⟩
    ·exact .inl h
    ·refine .inr ⟨b,n,cap,vs,rest,h1,?_,h3,h4,h5,h6,h7,h8,h9.mono hl.bare (Nat.le_refl _)⟩
     rcases h2 with h2 | h2
     ·exact .inl h2
     ·exact absurd h2.1 (by omega)
   ·by_cases jd:j = d
    ·subst jd;unfold zaz;rw [Rd];trivial
    ·by_cases jk:j = k
     ·subst jk
      have hrow:=hs.wok.rows j
      unfold zaz at hrow ⊢
      rw [hRk] at hrow
      rw [Rk,Mo j jd jk',Vo j jk']
      rcases hrow with ⟨g1,g2,g3⟩ | ⟨b,n,cap,vs,rest,h1,h2,h3,h4,h5,h6,h7,h8,h9⟩
      ·refine .inl ⟨g1,g2,List.eq_nil_of_length_eq_zero (by rw [hcs.1,g3];rfl)⟩
      ·refine .inr ⟨b,n,cap,vs,rest,h1,h2,h3,h4,h5,h6,h7,h8,by rw [hcs.1];exact h9.1,fun i a' b'=>?_⟩
       have ha:i < cs.length:=by rw [← hcs.1];exact a'
       have h0:=h9.2 i ha b'
       rcases hcs.2 i ha a' with he | ⟨he1,he2⟩
       ·rw [he];exact h0.mono hl (Nat.le_refl _)
       ·rw [he1] at h0
        rw [he2]
        cases h0 with
        | own hv hx =>
          refine .own (by rw [Rk'];exact Nat.le_refl _) fun _ _=>?_
          rw [Vk']
          exact hx (by rw [hRd]) (by rw [hRd];rfl)
     ·have hrow:=hs.wok.rows j
      unfold zaz at hrow ⊢
      rw [Ro j jd jk jk',Mo j jd jk',Vo j jk']
      cases hkd:(E.R j).kind with
      | dead=>trivial
      | nil=>simpa only [hkd] using hrow
      | box t cells =>
        simp only [hkd] at hrow ⊢
        obtain ⟨b,vs,h1,h2,h3,h4⟩:=hrow
        exact ⟨b,vs,h1,h2,h3,h4.mono hl (Nat.le_refl _)⟩
      | sli e sz fz cells =>
        simp only [hkd] at hrow ⊢
        rcases hrow with h | ⟨b,n,cap,vs,rest,h1,h2,h3,h4,h5,h6,h7,h8,h9⟩
        ·exact .inl h
        ·exact .inr ⟨b,n,cap,vs,rest,h1,h2,h3,h4,h5,h6,h7,h8,h9.mono hl.bare (Nat.le_refl _)⟩
      | tab e cells =>
        simp only [hkd] at hrow ⊢
        rcases hrow with h | ⟨b,n,cap,vs,rest,h1,h2,h3,h4,h5,h6,h7,h8,h9⟩
        ·exact .inl h
        ·exact .inr ⟨b,n,cap,vs,rest,h1,h2,h3,h4,h5,h6,h7,h8,h9.mono hl (Nat.le_refl _)⟩
  ·
   have back:∀ j b,(E'.R j).kind.nd = true→E'.rm j = some b→(if j = k' then d else j) = (if j = k' then d else j)∧(E.R (if j = k' then d else j)).kind.nd = true∧E.rm (if j = k' then d else j) = some b∧j ≠ d:=by
    intro j b hn hm
    by_cases jk':j = k'
    ·subst jk';rw [if_pos rfl];rw [Mk'] at hm;exact ⟨rfl,by rw [hRd];rfl,hm,Ne.symm ndk'⟩
    ·rw [if_neg jk']
     have jd:j ≠ d:=fun e=>by subst e;rw [Md] at hm;cases hm
     rw [Mo j jd jk'] at hm
     refine ⟨rfl,?_,hm,jd⟩
     by_cases jk:j = k
     ·subst jk;rw [hRk];rfl
     ·rw [← Ro j jd jk jk'];exact hn
   obtain ⟨_,a1,a2,a3⟩:=back j b n1 e1
   obtain ⟨_,b1,b2,b3⟩:=back j' b n2 e2
   have:=hs.wok.inj _ _ b a1 b1 a2 b2
   by_cases jk:j = k'
   ·by_cases jk2:j' = k'
    ·rw [jk,jk2]
    ·rw [if_pos jk,if_neg jk2] at this;exact absurd this.symm b3
   ·by_cases jk2:j' = k'
    ·rw [if_neg jk,if_pos jk2] at this;exact absurd this a3
    ·rw [if_neg jk,if_neg jk2] at this;exact this
  ·by_cases jk':j = k'
   ·subst jk';rw [Rk'];exact Nat.one_pos
   ·by_cases jd:j = d
    ·subst jd;rw [Rd];exact Nat.succ_pos _
    ·by_cases jk:j = k
     ·subst jk;rw [Rk];have:=hs.wok.pos j (by rw [hRk];rfl);rw [hRk] at this;exact this
     ·rw [Ro j jd jk jk'] at hn ⊢;exact hs.wok.pos j hn
  ·by_cases jk':j = k'
   ·subst jk';rw [Mk'] at hb;exact hs.wok.apart d b (by rw [hRd];rfl) hb
   ·by_cases jd:j = d
    ·subst jd;rw [Md] at hb;cases hb
    ·rw [Mo j jd jk'] at hb
     by_cases jk:j = k
     ·subst jk;exact hs.wok.apart j b (by rw [hRk];rfl) hb
     ·rw [Ro j jd jk jk'] at hn;exact hs.wok.apart j b hn hb
  ·obtain ⟨p1,p2⟩:=hs.wok.pin j
   by_cases jk':j = k'
   ·subst jk'
    rw [hRk'] at p1
    have p1:(G.pR j).ver = 0:=Nat.le_zero.1 p1
    rw [Rk']
    exact ⟨by rw [p1];exact Nat.zero_le _,fun h=>by rw [p1] at h;cases h⟩
   ·by_cases jd:j = d
    ·subst jd
     rw [Rd]
     rw [hRd] at p1
     exact ⟨Nat.le_succ_of_le p1,fun h h'=>by cases h'⟩
    ·by_cases jk:j = k
     ·subst jk
      rw [Rk,Mo j jd jk',Vo j jk']
      rw [hRk] at p1 p2
      exact ⟨p1,fun h _=>p2 h rfl⟩
     ·rw [Ro j jd jk jk',Mo j jd jk',Vo j jk'];exact ⟨p1,p2⟩
 refine ⟨E',?_,hwok,hs.size,hs.defers,fun i=>(hs.slots i).mono hl (Nat.le_refl _)⟩
 show R' = _
 simp only [R',hs.rw]
 rfl
end
end Go.Abs
namespace Go.Abs
section
variable {Q:AX→St→Prop} {s:St}
theorem zrA [zah] {α:Type} (I:α→St→Prop) (μ:α→Nat) (x0:α) {s0:St} (hw:Wk s s0) {b:(AX→St→Prop)→St→Prop} {u:Dm b} {v:Dm Q} (h0:I x0 s0) (h:∀ x s1,I x s1→b (AX.seq (zpJ I μ (μ x)) Q) s1):zuZ (kk b u) (kk Q v) s :=
 ⟨α,I,μ,⟨x0,s0,hw,h0⟩,h⟩
theorem zvy (n:Nat):zco (List.replicate n (.v (.slice none 0 0))):=fun p hp=>by
 rw [(List.mem_replicate.1 hp).2];rfl
end
end Go.Abs
namespace Go.Abs
theorem zyJ {rw:Nat→Row} {e2 k:Nat}:∀ (p:List Nat) (rows:List (List PV)) (K:List Nat→Prop),rows.length = p.length →
 (∀ i (a:i < p.length) (b:i < rows.length),sid k p[i] < lent∧rw (sid k p[i]) = ⟨1,.sli e2 1 false rows[i]⟩)→K (p.map (sid k))→zpL rw e2 (zaI k p) rows K:=by
 intro p
 induction p with
 | nil=>intro rows K h _ hk;cases rows with | nil=>exact hk | cons r rs=>simp at h
 | cons j p ih =>
   intro rows K h hr hk
   cases rows with
   | nil=>simp at h
   | cons r rs =>
     have h0:=hr 0 (by simp) (by simp)
     exact ⟨h0.1,h0.2,ih rs _ (by simpa using h) (fun i a b=>hr (i + 1) (by simpa using a) (by simpa using b)) hk⟩
end Go.Abs

/- DERIVED by an AI agent. Tables of numbers: one number written, two rows swapped. No program in sight. -/
namespace Go.Abs
set_option linter.unusedSimpArgs false
set_option linter.unusedVariables false
abbrev Mat:=List (List Int)
structure TabI (rw:Nat→Row) (k v e e2:Nat) (q:List Nat) (M:Mat):Prop where
 is:TabIs rw k v e e2 q (M.map iL)
 nd:q.Nodup
theorem zck (M:Mat) (i:Nat):(M.map iL).getD i [] = iL (M.getD i []):=by
 by_cases h:i < M.length
 ·simp [List.getD,h]
 ·simp [List.getD,h,iL]
section
variable {rw rw':Nat→Row} {k v e e2:Nat} {q:List Nat} {M:Mat}
theorem TabI.len (h:TabI rw k v e e2 q M):q.length = M.length:=by rw [h.is.len];simp
theorem TabI.top (h:TabI rw k v e e2 q M):rw k = ⟨v,.tab e (zaI k q)⟩:=h.is.top
theorem TabI.row [zah] (h:TabI rw k v e e2 q M) {i:Nat} (hi:i < M.length):rw (sid k (q.getD i 0)) = ⟨1,.sli e2 1 false (iL (M.getD i []))⟩:=by
 rw [h.is.row i (by rw [h.len];exact hi),zck]
theorem TabI.ne [zah] (h:TabI rw k v e e2 q M) {i j:Nat} (hi:i < M.length) (hj:j < M.length) (hij:i ≠ j):¬ sid k (q.getD i 0) = sid k (q.getD j 0):=fun e=>by
 have hi':i < q.length:=by rw [h.len];exact hi
 have hj':j < q.length:=by rw [h.len];exact hj
 have h1:q.getD i 0 = q[i]:=by simp [List.getD,hi']
 have h2:q.getD j 0 = q[j]:=by simp [List.getD,hj']
 have:=zc6 e
 rw [h1,h2] at this
 exact hij ((List.getElem_inj (h₀:=hi') (h₁:=hj') h.nd).1 this)
theorem TabI.same [zah] (h:TabI rw k v e e2 q M) (h1:rw' k = rw k) (h2:∀ x,rw' (sid k x) = rw (sid k x)):TabI rw' k v e e2 q M :=
 ⟨⟨h1.trans h.top,h.is.len,fun i hi=>(h2 _).trans (h.is.row i hi)⟩,h.nd⟩
theorem TabI.to (h:TabI rw k v e e2 q M) {M':Mat} (he:M = M'):TabI rw k v e e2 q M':=he ▸ h
theorem TabI.set [zah] (h:TabI rw k v e e2 q M) {i:Nat} (hi:i < M.length) {r:List Int} (h1:rw' k = rw k) (h2:rw' (sid k (q.getD i 0)) = ⟨1,.sli e2 1 false (iL r)⟩)
 (h3:∀ x,¬ sid k x = sid k (q.getD i 0)→rw' (sid k x) = rw (sid k x)):TabI rw' k v e e2 q (M.set i r):=by
 refine ⟨⟨h1.trans h.top,by rw [h.len];simp,fun j hj=>?_⟩,h.nd⟩
 have hj':j < M.length:=by rw [← h.len];exact hj
 rw [zck]
 by_cases e:j = i
 ·subst e
  have:(M.set j r).getD j [] = r:=by simp [List.getD,hi]
  rw [h2,this]
 ·have:(M.set i r).getD j [] = M.getD j []:=by simp [List.getD,List.getElem?_set_ne (Ne.symm e)]
  rw [h3 _ (h.ne hj' hi e),h.row hj',this]
theorem TabI.swap [zah] (h:TabI rw k v e e2 q M) {a b:Nat} (ha:a < M.length) (hb:b < M.length) (h1:rw' k = ⟨v,.tab e (zaI k ((q.set a (q.getD b 0)).set b (q.getD a 0)))⟩) (h2:∀ x,rw' (sid k x) = rw (sid k x)) :
 TabI rw' k v e e2 ((q.set a (q.getD b 0)).set b (q.getD a 0)) ((M.set a (M.getD b [])).set b (M.getD a []))∧((q.set a (q.getD b 0)).set b (q.getD a 0)).Perm q:=by
 have ha':a < q.length:=by rw [h.len];exact ha
 have hb':b < q.length:=by rw [h.len];exact hb
 have e1:q.getD a 0 = q[a]:=by simp [List.getD,ha']
 have e2':q.getD b 0 = q[b]:=by simp [List.getD,hb']
 have hp:((q.set a (q.getD b 0)).set b (q.getD a 0)).Perm q:=by rw [e1,e2'];exact List.set_set_perm ha' hb'
 refine ⟨⟨⟨h1,by simp [h.len],fun j hj=>?_⟩,hp.nodup_iff.2 h.nd⟩,hp⟩
 have hj':j < M.length:=by simpa [h.len] using hj
 have hjq:j < q.length:=by rw [h.len];exact hj'
 rw [zck,h2]
 by_cases eb:j = b
 ·subst eb
  have q1:((q.set a (q.getD j 0)).set j (q.getD a 0)).getD j 0 = q.getD a 0:=by simp [List.getD,hjq]
  have q2:((M.set a (M.getD j [])).set j (M.getD a [])).getD j [] = M.getD a []:=by simp [List.getD,hj']
  rw [q1,q2];exact h.row ha
 ·by_cases ea:j = a
  ·subst ea
   have q1:((q.set j (q.getD b 0)).set b (q.getD j 0)).getD j 0 = q.getD b 0:=by
    simp only [List.getD]
    rw [List.getElem?_set_ne (Ne.symm eb),List.getElem?_set_self hjq];rfl
   have q2:((M.set j (M.getD b [])).set b (M.getD j [])).getD j [] = M.getD b []:=by
    simp only [List.getD]
    rw [List.getElem?_set_ne (Ne.symm eb),List.getElem?_set_self hj'];rfl
   rw [q1,q2];exact h.row hb
  ·have q1:((q.set a (q.getD b 0)).set b (q.getD a 0)).getD j 0 = q.getD j 0:=by
    simp only [List.getD]
    rw [List.getElem?_set_ne (Ne.symm eb),List.getElem?_set_ne (Ne.symm ea)]
   have q2:((M.set a (M.getD b [])).set b (M.getD a [])).getD j [] = M.getD j []:=by
    simp only [List.getD]
    rw [List.getElem?_set_ne (Ne.symm eb),List.getElem?_set_ne (Ne.symm ea)]
   rw [q1,q2];exact h.row hj'
theorem zCq [zah] (M:Mat):zkc (M.map iL):=fun i _=>by rw [zck];exact zdF _
theorem zGB [zah] (e e2:Nat) (M:Mat):TabI (inT e e2 (M.map iL)) 1000000 1 e e2 (List.range M.length) M:=by
 refine ⟨?_,List.nodup_range⟩
 have:=@zFE e e2 (M.map iL)
 rw [List.length_map] at this
 exact this
end
theorem AT.goI [zah] {P:Program} {T:Tab} {f:FuncId} {fn:Func} {c:Code} {rs:List ResultVar} {args:List PV} {e e2:Nat} {M M':Mat} {res:TR} (hT:T.Ok P) (hm:P.follows .mixedOrders = true) (hf:P.funcs[f]? = some fn) (hname:(fn.name == "runtime.NumGoroutine") = false)
 (hb:fn.body = some c) (hr:fn.results.toList = rs) (hfit:(fits fn.ntmps c && decide (args.length ≤ fn.ntmps) && decide (fn.results.toList.length ≤ 4)) = true) (hlen:M'.length = M.length)
 (h:M.length ≤ 9223372036854775807→∀ s:St,(∀ i,s.sl i = args.getD i .junk)→(∀ j,j < 1000000→s.rw j = ⟨0,.dead⟩)→TabI s.rw 1000000 1 e e2 (List.range M.length) M→cwp P T c (zGd T rs e e2 M.length (M'.map iL) res) s):AT P f args e e2 (M.map iL) (M'.map iL) res:=by
 subst hr
 refine AT.of hT hm hf hname hb hfit (zCq M) (zCq M') (by simpa using hlen) fun h1 _=>?_
 have:=h (by simpa using h1) (St.initT args e e2 (M.map iL)) (fun _=>rfl) (fun j hj=>zyb hj) (zGB e e2 M)
 have e9:(M.map iL).length = M.length:=List.length_map _
 rwa [← e9] at this
theorem zyH {rw:Nat→Row} {e e2 n:Nat} {q:List Nat} {M:Mat} (h:TabI rw 1000000 1 e e2 q M) (hq:q.Perm (List.range n)):zt2 rw e e2 n (M.map iL):=⟨q,h.is,hq⟩
structure TabP (rw:Nat→Row) (k v e e2 n i:Nat) (M:Mat):Prop where
 top:rw k = ⟨v,.tab e (zkT k n i)⟩
 len:M.length = i
 row:∀ j,j < i→rw (sid k j) = ⟨1,.sli e2 1 false (iL (M.getD j []))⟩
 rest:∀ j,i ≤ j→rw (sid k j) = ⟨0,.dead⟩
section
variable {s:St} {rw rw':Nat→Row} {k v e e2 n i d vd:Nat} {M:Mat} {r:List Int}
theorem TabP.init [zah] (e2:Nat) (hk:s.rw k = ⟨v,.sli e 1 false (List.replicate n (.v (.slice none 0 0)))⟩) (hd:∀ j,s.rw (sid k j) = ⟨0,.dead⟩) :
 ∃ s',Wk s s'∧TabP s'.rw k v e e2 n 0 []∧s'.sl = s.sl∧∀ j,(j % 1000 == k % 1000) = false→s'.rw j = s.rw j:=by
 refine ⟨_,Wk.tab hk (zvy n),⟨?_,rfl,fun j hj=>absurd hj (by omega),fun j _=>?_⟩,rfl,fun j hj=>?_⟩
 ·rw [zaV,zyI]
 ·rw [zaw _ _ _ _ (zc2 k j)];exact hd j
 ·have hj:=beq_eq_false_iff_ne.1 hj
  rw [zaw _ _ _ _ (fun e=>hj (by rw [e]))]
theorem zqf {M:Mat} {r:List Int} {j:Nat}:(M ++ [r]).getD j [] = if j < M.length then M.getD j [] else if j = M.length then r else []:=by
 by_cases h1:j < M.length
 ·rw [if_pos h1];simp [List.getD,List.getElem?_append_left h1]
 ·rw [if_neg h1]
  by_cases h2:j = M.length
  ·rw [if_pos h2];subst h2;simp [List.getD]
  ·rw [if_neg h2];simp [List.getD,List.getElem?_append_right (by omega:M.length ≤ j)];rw [List.getElem?_eq_none (by simp;omega)];rfl
theorem TabP.push [zah] (hk:s.rw k = ⟨v,.tab e (spl (zkT k n i) i [.own d vd])⟩) (hl:M.length = i) (hrow:∀ j,j < i→s.rw (sid k j) = ⟨1,.sli e2 1 false (iL (M.getD j []))⟩) (hrest:∀ j,i ≤ j→s.rw (sid k j) = ⟨0,.dead⟩)
 (hd:s.rw d = ⟨vd,.sli e2 1 false (iL r)⟩) (hdl:d < lent) (hdk:(d % 1000 == k % 1000) = false) (hi:i < n) :
 ∃ s',Wk s s'∧TabP s'.rw k v e e2 n (i + 1) (M ++ [r])∧s'.sl = s.sl∧∀ j,(j % 1000 == k % 1000) = false→(j == d) = false→s'.rw j = s.rw j:=by
 have hdk':=beq_eq_false_iff_ne.1 hdk
 have ndk:d ≠ k:=fun e=>hdk' (by rw [e])
 have nds:∀ j,d ≠ sid k j:=fun j e=>hdk' (by rw [e,zaa])
 refine ⟨_,Wk.ren (k':=sid k i) (cs':=zkT k n (i + 1)) hd hk (hrest i (Nat.le_refl i)) hdl (zAH hi),⟨?_,by simp [hl],fun j hj=>?_,fun j hj=>?_⟩,rfl,fun j hj hj2=>?_⟩
 ·rw [zaV]
 ·rw [zaw _ _ _ _ (zc2 k j),zqf,hl]
  by_cases e1:j = i
  ·subst e1
   rw [zaV,if_neg (by omega),if_pos rfl]
  ·rw [zaw _ _ _ _ (fun h=>e1 (zc6 h)),zaw _ _ _ _ (Ne.symm (nds j)),if_pos (by omega)]
   exact hrow j (by omega)
 ·rw [zaw _ _ _ _ (zc2 k j),zaw _ _ _ _ (fun h=>by have:=zc6 h;omega),zaw _ _ _ _ (Ne.symm (nds j))]
  exact hrest j (by omega)
 ·have hj:=beq_eq_false_iff_ne.1 hj
  have hj2:=beq_eq_false_iff_ne.1 hj2
  rw [zaw _ _ _ _ (fun e=>hj (by rw [e])),zaw _ _ _ _ (fun e=>hj (by rw [e,zaa])),zaw _ _ _ _ hj2]
theorem TabP.set (h:TabP rw k v e e2 n i M) {j:Nat} (hj:j < i) (h1:rw' k = rw k) (h2:rw' (sid k j) = ⟨1,.sli e2 1 false (iL r)⟩) (h3:∀ x,¬ x = j→rw' (sid k x) = rw (sid k x)):TabP rw' k v e e2 n i (M.set j r):=by
 refine ⟨h1.trans h.top,by simp [h.len],fun x hx=>?_,fun x hx=>(h3 x (by omega)).trans (h.rest x hx)⟩
 by_cases e:x = j
 ·subst e
  have:(M.set x r).getD x [] = r:=by simp [List.getD,h.len,hj]
  rw [h2,this]
 ·have:(M.set j r).getD x [] = M.getD x []:=by simp [List.getD,List.getElem?_set_ne (Ne.symm e)]
  rw [h3 x e,h.row x hx,this]
theorem TabP.same (h:TabP rw k v e e2 n i M) (h1:rw' k = rw k) (h2:∀ x,rw' (sid k x) = rw (sid k x)):TabP rw' k v e e2 n i M :=
 ⟨h1.trans h.top,h.len,fun j hj=>(h2 j).trans (h.row j hj),fun j hj=>(h2 j).trans (h.rest j hj)⟩
theorem TabP.done [zah] (h:TabP rw k v e e2 n n M):TabI rw k v e e2 (List.range n) M:=by
 refine ⟨⟨by rw [h.top,zAG],by simp [h.len],fun j hj=>?_⟩,List.nodup_range⟩
 have hj:j < n:=by simpa using hj
 have e1:(List.range n).getD j 0 = j:=by simp [List.getD,hj]
 rw [e1,zck];exact h.row j hj
theorem zkv [zah] {q:List Nat} (h:TabI rw k v e e2 q M) (hk:k < 1000) (hq:∀ j ∈ q,j < 998) {Kn:List Nat→Prop} (hK:Kn (k :: q.map (sid k))):zm3 rw (.own k v) (.tb e e2 (M.map iL)) Kn:=by
 have hkl:k < lent:=by unfold lent;omega
 unfold zm3
 simp only [h.top]
 refine ⟨hkl,trivial,trivial,zyJ q (M.map iL) _ (by rw [List.length_map,h.len]) (fun i a b=>?_) hK⟩
 have hm:i < M.length:=by simpa using b
 have hr:=h.row hm
 have e1:q.getD i 0 = q[i]:=by simp [List.getD,a]
 have e3:M.getD i [] = M[i]:=by simp [List.getD,hm]
 rw [e1,e3] at hr
 refine ⟨zub hk (hq _ (List.getElem_mem a)),?_⟩
 rw [hr,List.getElem_map]
end
section
variable {Q:AX→St→Prop} {s:St} {k v e e2 n i d vd:Nat} {M:Mat} {r:List Int}
end
section
variable {s:St}
theorem Wk.untab [zah] {k v e:Nat} {c:List PV} (hk:s.rw k = ⟨v,.tab e c⟩) (hc:zco c):Wk s (s.row k ⟨v,.sli e 1 false c⟩):=by
 intro G a w ⟨E,hs⟩
 have hR:E.R k = ⟨v,.tab e c⟩:=by rw [hs.rw];exact hk
 have ht:OneTurn E w w k ⟨v,.sli e 1 false c⟩ (E.rm k) (E.rv k) :=
  ⟨fun _ _ _=>rfl,fun b hb _=>.inr ⟨hb,by rw [hR];rfl,fun _=>by rw [hR];rfl⟩,by rw [hR];exact Nat.le_refl _,
   fun _ _=>⟨by rw [hR];rfl,rfl⟩,fun _ _=>⟨by rw [hR];rfl,rfl⟩,fun _=>by have:=hs.wok.pos k (by rw [hR];rfl);rw [hR] at this;exact this,Nat.le_refl _,rfl,rfl,⟨rfl,fun _=>by first | exact Nat.le_refl _ | exact Nat.le_succ _⟩⟩
 have hturn:=ht.turn (fz:=[]) hs.wok
 have hrows:=ht.rows (fz:=[]) hs.wok (fun j hj=>by cases hj) (fun hl=>by
  have hrow:=hs.wok.rows k
  unfold zaz at hrow ⊢
  rw [hR] at hrow
  simp only [Env.turn,zai]
  rcases hrow with h | ⟨b,n,cap,vs,rest,h1,h2,h3,h4,h5,h6,h7,h8,h9⟩
  ·exact .inl h
  ·exact .inr ⟨b,n,cap,vs,rest,h1,h2,h3,h4,by omega,h6,h7,by omega,zcS hc h9⟩)
 have:=hturn.sim hs hrows
 refine ⟨E.turn [] k ⟨v,.sli e 1 false c⟩ (E.rm k) (E.rv k),?_⟩
 have e:({ s with rw:=(E.turn [] k ⟨v,.sli e 1 false c⟩ (E.rm k) (E.rv k)).R }:St) = s.row k ⟨v,.sli e 1 false c⟩:=by
  have hf:zg0 E.R [] = E.R:=zfv E.R
  simp only [Env.turn,hf,hs.rw]
  rfl
 rw [e] at this
 exact this
structure TabG (rw:Nat→Row) (k v e e2 n:Nat) (M:Mat):Prop where
 top:rw k = ⟨v,.tab e (zaI k (List.range n))⟩
 len:M.length = n
 row:∀ j,j < n→rw (sid k j) = ⟨1,.sli e2 1 false (iL (M.getD j []))⟩
 rest:∀ j,n ≤ j→rw (sid k j) = ⟨0,.dead⟩
variable {rw rw':Nat→Row} {k v e e2 n d vd:Nat} {M:Mat} {r:List Int}
theorem TabG.same (h:TabG rw k v e e2 n M) (h1:rw' k = rw k) (h2:∀ x,rw' (sid k x) = rw (sid k x)):TabG rw' k v e e2 n M :=
 ⟨h1.trans h.top,h.len,fun j hj=>(h2 j).trans (h.row j hj),fun j hj=>(h2 j).trans (h.rest j hj)⟩
theorem TabG.done [zah] (h:TabG rw k v e e2 n M):TabI rw k v e e2 (List.range n) M:=by
 refine ⟨⟨h.top,by simp [h.len],fun j hj=>?_⟩,List.nodup_range⟩
 have hj:j < n:=by simpa using hj
 have e1:(List.range n).getD j 0 = j:=by simp [List.getD,hj]
 rw [e1,zck];exact h.row j hj
theorem TabG.init [zah] (e2:Nat) (hk:s.rw k = ⟨v,.sli e 1 false []⟩) (hd:∀ j,s.rw (sid k j) = ⟨0,.dead⟩) :
 ∃ s',Wk s s'∧TabG s'.rw k v e e2 0 []∧s'.sl = s.sl∧∀ j,(j % 1000 == k % 1000) = false→s'.rw j = s.rw j:=by
 refine ⟨_,Wk.tab hk (fun p hp=>by cases hp),⟨?_,rfl,fun j hj=>absurd hj (by omega),fun j _=>?_⟩,rfl,fun j hj=>?_⟩
 ·rw [zaV];rfl
 ·rw [zaw _ _ _ _ (zc2 k j)];exact hd j
 ·have hj:=beq_eq_false_iff_ne.1 hj
  rw [zaw _ _ _ _ (fun e=>hj (by rw [e]))]
theorem TabG.push [zah] (hk:s.rw k = ⟨v,.tab e (zaI k (List.range n) ++ [.own d vd])⟩) (hl:M.length = n) (hrow:∀ j,j < n→s.rw (sid k j) = ⟨1,.sli e2 1 false (iL (M.getD j []))⟩) (hrest:∀ j,n ≤ j→s.rw (sid k j) = ⟨0,.dead⟩)
 (hd:s.rw d = ⟨vd,.tab e2 (iL r)⟩) (hdl:d < lent) (hdk:(d % 1000 == k % 1000) = false) :
 ∃ s',Wk s s'∧TabG s'.rw k v e e2 (n + 1) (M ++ [r])∧s'.sl = s.sl∧∀ j,(j % 1000 == k % 1000) = false→(j == d) = false→s'.rw j = s.rw j:=by
 have hdk':=beq_eq_false_iff_ne.1 hdk
 have ndk:d ≠ k:=fun e=>hdk' (by rw [e])
 have nds:∀ j,d ≠ sid k j:=fun j e=>hdk' (by rw [e,zaa])
 have w1:Wk s (s.row d ⟨vd,.sli e2 1 false (iL r)⟩):=Wk.untab hd (zdF r)
 have hcs:(zaI k (List.range (n + 1))).length = (zaI k (List.range n) ++ [PV.own d vd]).length∧∀ i (a:i < (zaI k (List.range n) ++ [PV.own d vd]).length) (b:i < (zaI k (List.range (n + 1))).length),
  (zaI k (List.range (n + 1)))[i] = (zaI k (List.range n) ++ [PV.own d vd])[i] ∨ ((zaI k (List.range n) ++ [PV.own d vd])[i] = .own d vd∧(zaI k (List.range (n + 1)))[i] = .own (sid k n) 1):=by
  refine ⟨by simp [zau],fun i a b=>?_⟩
  have hi:i < n + 1:=by simpa [zau] using b
  by_cases h:i < n
  ·refine .inl ?_
   rw [List.getElem_append_left (by simpa [zau] using h)]
   simp [zaI]
  ·have:i = n:=by omega
   subst this
   refine .inr ⟨?_,?_⟩
   ·rw [List.getElem_append_right (by simp [zau])];simp [zau]
   ·simp [zaI]
 have w2:=Wk.ren (s:=s.row d ⟨vd,.sli e2 1 false (iL r)⟩) (d:=d) (k:=k) (k':=sid k n) (v:=vd) (vk:=v) (e:=e2) (et:=e) (sz:=1) (c:=iL r) (cs:=zaI k (List.range n) ++ [.own d vd]) (cs':=zaI k (List.range (n + 1)))
  (zaV _ _ _) (by rw [zaw _ _ _ _ (Ne.symm ndk)];exact hk) (by rw [zaw _ _ _ _ (Ne.symm (nds n))];exact hrest n (Nat.le_refl n)) hdl hcs
 refine ⟨_,w1.trans w2,⟨?_,by simp [hl],fun j hj=>?_,fun j hj=>?_⟩,rfl,fun j hj hj2=>?_⟩
 ·rw [zaV]
 ·rw [zaw _ _ _ _ (zc2 k j),zqf,hl]
  by_cases e1:j = n
  ·subst e1
   rw [zaV,if_neg (by omega),if_pos rfl]
  ·rw [zaw _ _ _ _ (fun h=>e1 (zc6 h)),zaw _ _ _ _ (Ne.symm (nds j)),zaw _ _ _ _ (Ne.symm (nds j)),if_pos (by omega)]
   exact hrow j (by omega)
 ·rw [zaw _ _ _ _ (zc2 k j),zaw _ _ _ _ (fun h=>by have:=zc6 h;omega),zaw _ _ _ _ (Ne.symm (nds j)),zaw _ _ _ _ (Ne.symm (nds j))]
  exact hrest j (by omega)
 ·have hj:=beq_eq_false_iff_ne.1 hj
  have hj2:=beq_eq_false_iff_ne.1 hj2
  rw [zaw _ _ _ _ (fun e=>hj (by rw [e])),zaw _ _ _ _ (fun e=>hj (by rw [e,zaa])),zaw _ _ _ _ hj2,zaw _ _ _ _ hj2]
variable {Q:AX→St→Prop}
theorem zAF [zah] {α:Type} (hk:s.rw k = ⟨v,.sli e 1 false []⟩) (hd:∀ j,s.rw (sid k j) = ⟨0,.dead⟩) (I:α→St→Prop) (μ:α→Nat) (x0:α) {b:(AX→St→Prop)→St→Prop} {u:Dm b} {w:Dm Q}
 (h0:∀ s',TabG s'.rw k v e e2 0 []→s'.sl = s.sl→(∀ j,(j % 1000 == k % 1000) = false→s'.rw j = s.rw j)→I x0 s') (h:∀ x s1,I x s1→b (AX.seq (zpJ I μ (μ x)) Q) s1):zuZ (kk b u) (kk Q w) s:=by
 obtain ⟨s',hw,ht,hsl,ho⟩:=TabG.init e2 hk hd
 exact ⟨α,I,μ,⟨x0,s',hw,h0 s' ht hsl ho⟩,h⟩
theorem zvw [zah] {α:Type} {I:α→St→Prop} {μ:α→Nat} {m:Nat} (hk:s.rw k = ⟨v,.tab e (zaI k (List.range n) ++ [.own d vd])⟩) (hl:M.length = n) (hrow:∀ j,j < n→s.rw (sid k j) = ⟨1,.sli e2 1 false (iL (M.getD j []))⟩) (hrest:∀ j,n ≤ j→s.rw (sid k j) = ⟨0,.dead⟩)
 (hd:s.rw d = ⟨vd,.tab e2 (iL r)⟩) (hdl:d < lent) (hdk:(d % 1000 == k % 1000) = false) (x':α)
 (h0:∀ s',TabG s'.rw k v e e2 (n + 1) (M ++ [r])→s'.sl = s.sl→(∀ j,(j % 1000 == k % 1000) = false→(j == d) = false→s'.rw j = s.rw j)→I x' s') (hm:μ x' < m):zpJ I μ m s:=by
 obtain ⟨s',hw,ht,hsl,ho⟩:=TabG.push hk hl hrow hrest hd hdl hdk
 exact ⟨x',s',hw,h0 s' ht hsl ho,hm⟩
end
theorem zvx [zah] {s:St} {k v e e2 i:Nat} {p:List Nat} {rows:List (List PV)} (hn:p.Nodup) (h:i < p.length):(s.tabbed k v e e2 p rows).rw (sid k (p.getD i 0)) = ⟨1,.sli e2 1 false (rows.getD i [])⟩:=zgZ hn h
theorem zkw [zah] {k d:Nat} {q:List Nat} (hq:q.Nodup) (hd:∀ j ∈ q,d ≠ sid k j) (hdk:d ≠ k):(k :: q.map (sid k) ++ [d]).Nodup:=by
 rw [List.cons_append,List.nodup_cons,List.nodup_append]
 refine ⟨fun h=>?_,List.Pairwise.map _ (fun a b hab=>by rw [Ne,zab];exact hab) hq,List.nodup_cons.2 ⟨by simp,List.nodup_nil⟩,fun a ha b hb=>?_⟩
 ·rcases List.mem_append.1 h with h | h
  ·obtain ⟨j,_,hj⟩:=List.mem_map.1 h
   exact zc2 k j hj
  ·exact hdk (List.mem_singleton.1 h).symm
 ·obtain ⟨j,hj,rfl⟩:=List.mem_map.1 ha
  rw [List.mem_singleton.1 hb]
  exact (hd j hj).symm
section
variable {s:St} {rw rw':Nat→Row} {k v e e2 n d vd:Nat} {M:Mat} {r:List Int}
end
theorem TabI.adopt [zah] {s:St} {rw':Nat→Row} {d v e e2 n:Nat} {M:Mat} (h1:rw' d = (zal s d (.tb e e2 (M.map iL))).rw d) (h2:∀ x,rw' (sid d x) = (zal s d (.tb e e2 (M.map iL))).rw (sid d x)) (h:∀ i,i < M.length→(s.rw (sid d i)).ver = 0) (hv:(s.rw d).ver + 1 = v) (hn:M.length = n) :
 TabI rw' d v e e2 (List.range n) M:=by
 subst hv hn
 have h0:TabI (zal s d (.tb e e2 (M.map iL))).rw d ((s.rw d).ver + 1) e e2 (List.range M.length) M:=⟨by
  have:=zpI (s:=s) d e e2 (M.map iL) (fun i hi=>h i (by simpa using hi))
  rwa [List.length_map] at this,List.nodup_range⟩
 exact h0.same h1 h2
end Go.Abs

/- DERIVED by an AI agent. Tables whose rows are appended to. No program in sight. -/
namespace Go.Abs
set_option linter.unusedSimpArgs false
set_option linter.unusedVariables false
def zdt (k n:Nat) (g:Nat→Nat):List PV:=(List.range n).map fun j=>.own (sid k j) (g j)
theorem zg8 (k n:Nat) (g:Nat→Nat):(zdt k n g).length = n:=by simp [zdt]
structure TabF (rw:Nat→Row) (k v e e2 n:Nat) (g:Nat→Nat) (M:Nat→List Int):Prop where
 top:rw k = ⟨v,.tab e (zdt k n g)⟩
 row:∀ j,j < n→rw (sid k j) = ⟨g j,.sli e2 1 false (iL (M j))⟩
section
variable {s:St} {rw rw':Nat→Row} {k v e e2 n:Nat} {g:Nat→Nat} {M:Nat→List Int}
theorem TabF.same (h:TabF rw k v e e2 n g M) (h1:rw' k = rw k) (h2:∀ x,rw' (sid k x) = rw (sid k x)):TabF rw' k v e e2 n g M:=⟨h1.trans h.top,fun j hj=>(h2 j).trans (h.row j hj)⟩
theorem TabF.add (h:TabF rw k v e e2 n g M) {o:Nat} (ho:o < n) {r:List Int} {g':Nat→Nat} {M':Nat→List Int} (h1:rw' k = ⟨v,.tab e (spl (zdt k n g) o [.own (sid k o) (g o + 1)])⟩) (h2:rw' (sid k o) = ⟨g o + 1,.sli e2 1 false (iL r)⟩)
 (h3:∀ x,¬ x = o→rw' (sid k x) = rw (sid k x)) (hg:∀ j,j < n→g' j = if j = o then g o + 1 else g j) (hM:∀ j,j < n→M' j = if j = o then r else M j):TabF rw' k v e e2 n g' M':=by
 refine ⟨?_,fun j hj=>?_⟩
 ·rw [h1]
  congr 2
  show (zdt k n g).set o _ = _
  refine List.ext_getElem (by simp [zdt]) fun j a b=>?_
  have hj:j < n:=by simpa [zdt] using b
  rw [List.getElem_set]
  simp only [zdt,List.getElem_map,List.getElem_range,hg j hj]
  by_cases e:o = j
  ·subst e;simp
  ·rw [if_neg e,if_neg (Ne.symm e)]
 ·rw [hg j hj,hM j hj]
  by_cases e:j = o
  ·subst e;rw [if_pos rfl,if_pos rfl,h2]
  ·rw [if_neg e,if_neg e,h3 j e,h.row j hj]
theorem zyE [zah] {T:Tab} {Kp:PV→Prop} (k n:Nat) (g:Nat→Nat) {t:TypeId} (o:Nat) (h0:(T t).k.agg = false) (h1:0 < (T t).size):ldK T t .asis (zdt k n g) o Kp = (o < n∧Kp (.own (sid k o) (g o))):=by
 have:=zgb (T:=T) (Kp:=Kp) (fun j=>PV.own (sid k j) (g j)) 0 (List.range n) (t:=t) (m:=.asis) o (fun j=>.own (sid k j) (g j)) (fun _=>rfl) h0 h1
 refine (show ldK T t .asis (zdt k n g) o Kp = _ from this).trans ?_
 rw [List.length_range]
 refine propext ⟨fun ⟨a,b⟩=>⟨a,?_⟩,fun ⟨a,b⟩=>⟨a,?_⟩⟩
 ·have e1:(List.range n).getD o 0 = o:=by simp [List.getD,a]
  rwa [e1] at b
 ·have e1:(List.range n).getD o 0 = o:=by simp [List.getD,a]
  rwa [e1]
theorem TabF.init [zah] (e2:Nat) (hk:s.rw k = ⟨v,.sli e 1 false (List.replicate n (.v (.slice none 0 0)))⟩) (hd:∀ j,s.rw (sid k j) = ⟨0,.dead⟩) :
 ∃ s',Wk s s'∧TabF s'.rw k v e e2 n (fun _=>1) (fun _=>[])∧s'.sl = s.sl∧∀ j,(j % 1000 == k % 1000) = false→s'.rw j = s.rw j:=by
 let R':(Nat→Row)→Nat→Row:=fun R j=>if j = k then ⟨v,.tab e (zdt k n fun _=>1)⟩ else if k < j∧(j - k) % 1000 = 0∧(j - k) / 1000 - 1 < n then ⟨1,.sli e2 1 false []⟩ else R j
 have Rk:∀ R,R' R k = ⟨v,.tab e (zdt k n fun _=>1)⟩:=fun R=>by simp only [R',if_true]
 have Rs:∀ R j,j < n→R' R (sid k j) = ⟨1,.sli e2 1 false []⟩:=fun R j hj=>by
  have h1:¬ sid k j = k:=zc2 k j
  have h2:k < sid k j∧(sid k j - k) % 1000 = 0∧(sid k j - k) / 1000 - 1 < n:=by rw [zbM];omega
  simp only [R',if_neg h1,if_pos h2]
 have Ro:∀ R j,¬ (j = k ∨ ∃ i,i < n∧j = sid k i)→R' R j = R j:=fun R j hj=>by
  have h1:¬ j = k:=fun h=>hj (.inl h)
  have h2:¬ (k < j∧(j - k) % 1000 = 0∧(j - k) / 1000 - 1 < n):=fun h=>hj (.inr ⟨_,h.2.2,by rw [zbM];omega⟩)
  simp only [R',if_neg h1,if_neg h2]
 refine ⟨{ s with rw:=R' s.rw },?_,⟨Rk _,fun j hj=>Rs _ j hj⟩,rfl,fun j hj=>?_⟩
 ·intro G a w ⟨E,hs⟩
  have hR:E.R k = ⟨v,.sli e 1 false (List.replicate n (.v (.slice none 0 0)))⟩:=by rw [hs.rw];exact hk
  have hD:∀ j,E.R (sid k j) = ⟨0,.dead⟩:=fun j=>by rw [hs.rw];exact hd j
  let rm':Nat→Option Nat:=fun j=>if j = k then E.rm k else if k < j∧(j - k) % 1000 = 0∧(j - k) / 1000 - 1 < n then none else E.rm j
  let rv':Nat→Value:=fun j=>if j = k then E.rv k else if k < j∧(j - k) % 1000 = 0∧(j - k) / 1000 - 1 < n then .slice none 0 0 else E.rv j
  have Mk:rm' k = E.rm k:=by simp only [rm',if_true]
  have Vk:rv' k = E.rv k:=by simp only [rv',if_true]
  have cond:∀ j,j < n→¬ sid k j = k∧(k < sid k j∧(sid k j - k) % 1000 = 0∧(sid k j - k) / 1000 - 1 < n):=fun j hj=>⟨zc2 k j,by rw [zbM];omega⟩
  have Ms:∀ j,j < n→rm' (sid k j) = none:=fun j hj=>by simp only [rm',if_neg (cond j hj).1,if_pos (cond j hj).2]
  have Vs:∀ j,j < n→rv' (sid k j) = .slice none 0 0:=fun j hj=>by simp only [rv',if_neg (cond j hj).1,if_pos (cond j hj).2]
  have out:∀ j,¬ (j = k ∨ ∃ i,i < n∧j = sid k i)→rm' j = E.rm j∧rv' j = E.rv j:=fun j hj=>by
   have h1:¬ j = k:=fun h=>hj (.inl h)
   have h2:¬ (k < j∧(j - k) % 1000 = 0∧(j - k) / 1000 - 1 < n):=fun h=>hj (.inr ⟨_,h.2.2,by rw [zbM];omega⟩)
   simp only [rm',rv',if_neg h1,if_neg h2,and_self]
  let E':Env:={ R:=R' E.R,rm:=rm',rv:=rv',L:=mkL E.X (R' E.R) rm',B:=E.B,X:=E.X }
  have ht:Turn G E E' w w (fun j=>j = k ∨ ∃ i,i < n∧j = sid k i):=by
   refine ⟨rfl,rfl,rfl,fun j hj=>⟨Ro _ j hj,(out j hj).1,(out j hj).2⟩,fun _ _ _=>rfl,fun j b hj hb hn=>?_,fun j hj=>?_,fun j hj he hsl=>?_,fun j hj he hsl=>?_,fun j hj hn=>?_,fun j j' b hj hj' h1 h2 e1 e2=>?_,Nat.le_refl _,rfl,rfl,⟨rfl,fun _=>by first | exact Nat.le_refl _ | exact Nat.le_succ _⟩⟩
   ·rcases hj with rfl | ⟨i,hi,rfl⟩
    ·have hb:rm' j = some b:=hb
     rw [Mk] at hb
     exact .inr ⟨hb,by rw [hR];rfl,fun _=>by rw [hR];rfl⟩
    ·have hb:rm' (sid k i) = some b:=hb
     rw [Ms i hi] at hb;cases hb
   ·show _ ≤ (R' E.R j).ver
    rcases hj with rfl | ⟨i,hi,rfl⟩
    ·rw [Rk,hR];exact Nat.le_refl _
    ·rw [Rs _ i hi,hD];exact Nat.zero_le _
   ·have he:(R' E.R j).ver = (E.R j).ver:=he
    rcases hj with rfl | ⟨i,hi,rfl⟩
    ·exact ⟨by rw [hR];rfl,Vk⟩
    ·rw [Rs _ i hi,hD] at he;cases he
   ·have he:(R' E.R j).ver = (E.R j).ver:=he
    rcases hj with rfl | ⟨i,hi,rfl⟩
    ·exact ⟨by rw [hR];rfl,Mk⟩
    ·rw [Rs _ i hi,hD] at he;cases he
   ·show 0 < (R' E.R j).ver
    rcases hj with rfl | ⟨i,hi,rfl⟩
    ·have:=hs.wok.pos j (by rw [hR];rfl)
     rw [hR] at this
     rw [Rk];exact this
    ·rw [Rs _ i hi];exact Nat.one_pos
   ·have e1:rm' j = some b:=e1
    have e2:rm' j' = some b:=e2
    rcases hj with rfl | ⟨i,hi,rfl⟩
    ·rcases hj' with rfl | ⟨i',hi',rfl⟩
     ·rfl
     ·rw [Ms i' hi'] at e2;cases e2
    ·rw [Ms i hi] at e1;cases e1
  have hrows:∀ j,(j = k ∨ ∃ i,i < n∧j = sid k i)→zaz w E' G.C j:=by
   intro j hj
   unfold zaz
   show match (R' E.R j).kind with | .dead=>True | .nil=>_ | .box t cells=>_ | .sli e sz _ cells=>_ | .tab e cells=>_
   rcases hj with rfl | ⟨i,hi,rfl⟩
   ·have hrow:=hs.wok.rows j
    unfold zaz at hrow
    rw [hR] at hrow
    rw [Rk]
    show (rm' j = none∧rv' j = _∧_) ∨ _
    rw [Mk,Vk]
    rcases hrow with ⟨h1,h2,h3⟩ | ⟨b,m,cap,vs,rest,h1,h2,h3,h4,h5,h6,h7,h8,h9⟩
    ·refine .inl ⟨h1,h2,?_⟩
     have:n = 0:=by simpa using congrArg List.length h3
     subst this;rfl
    ·refine .inr ⟨b,m,cap,vs,rest,Mk.trans h1,h2,Vk.trans h3,h4,by omega,h6,h7,by omega,by rw [zg8,← h9.1];simp,fun i a' b'=>?_⟩
     have hi:i < n:=by simpa [zdt] using a'
     have h0:=h9.2 i (by simpa using hi) b'
     have e1:(zdt j n fun _=>1)[i] = .own (sid j i) 1:=by simp [zdt]
     have hv:vs[i] = .slice none 0 0:=by
      simp only [List.getElem_replicate] at h0
      exact h0.v_eq
     rw [e1,hv]
     refine .own ?_ fun _ _=>?_
     ·show 1 ≤ (R' E.R (sid j i)).ver
      rw [Rs _ i hi];exact Nat.le_refl _
     ·exact (Vs i hi).symm
   ·rw [Rs _ i hi]
    exact .inl ⟨Ms i hi,Vs i hi,rfl⟩
  have key:SimE G E' ({ s with rw:=R' E.R }:St) a w:=ht.sim hs hrows
  rw [hs.rw] at key
  exact ⟨_,key⟩
 ·have hj:=beq_eq_false_iff_ne.1 hj
  refine Ro _ j fun h=>hj ?_
  rcases h with rfl | ⟨i,_,rfl⟩
  ·rfl
  ·exact zaa _ _
variable {Q:AX→St→Prop}
theorem zyF [zah] {α:Type} (hk:s.rw k = ⟨v,.sli e 1 false (List.replicate n (.v (.slice none 0 0)))⟩) (hd:∀ j,s.rw (sid k j) = ⟨0,.dead⟩) (I:α→St→Prop) (μ:α→Nat) (x0:α) {b:(AX→St→Prop)→St→Prop} {u:Dm b} {w:Dm Q}
 (h0:∀ s',TabF s'.rw k v e e2 n (fun _=>1) (fun _=>[])→s'.sl = s.sl→(∀ j,(j % 1000 == k % 1000) = false→s'.rw j = s.rw j)→I x0 s') (h:∀ x s1,I x s1→b (AX.seq (zpJ I μ (μ x)) Q) s1):zuZ (kk b u) (kk Q w) s:=by
 obtain ⟨s',hw,ht,hsl,ho⟩:=TabF.init e2 hk hd
 exact ⟨α,I,μ,⟨x0,s',hw,h0 s' ht hsl ho⟩,h⟩
theorem zAE {ids:List Nat}:∀ (l:List Nat) (rows:List (List PV)) (K:List Nat→Prop),rows.length = l.length→(∀ i (a:i < l.length) (b:i < rows.length),sid k l[i] < lent∧rw (sid k l[i]) = ⟨g l[i],.sli e2 1 false rows[i]⟩)→K (l.map (sid k)) →
 zpL rw e2 (l.map fun j=>.own (sid k j) (g j)) rows K:=by
 intro l
 induction l with
 | nil=>intro rows K h _ hk;cases rows with | nil=>exact hk | cons r rs=>simp at h
 | cons j l ih =>
   intro rows K h hr hk
   cases rows with
   | nil=>simp at h
   | cons r rs =>
     have h0:=hr 0 (by simp) (by simp)
     exact ⟨h0.1,h0.2,ih rs _ (by simpa using h) (fun i a b=>hr (i + 1) (by simpa using a) (by simpa using b)) hk⟩
theorem zyG [zah] (h:TabF rw k v e e2 n g M) (hk:k < 1000) (hn:n ≤ 900):zqH rw (.own k v) (.tb e e2 ((List.range n).map fun j=>iL (M j))) List.Nodup:=by
 have hkl:k < lent:=by unfold lent;omega
 show zm3 rw (.own k v) (.tb e e2 _) List.Nodup
 unfold zm3
 simp only [h.top]
 refine ⟨hkl,trivial,trivial,zAE (ids:=[]) (List.range n) _ _ (by simp) (fun i a b=>?_) ?_⟩
 ·have hi:i < n:=by simpa using a
  simp only [List.getElem_range,List.getElem_map]
  exact ⟨zub hk (by omega),h.row i hi⟩
 ·refine List.nodup_cons.2 ⟨fun hm=>?_,?_⟩
  ·obtain ⟨j,_,hj⟩:=List.mem_map.1 hm
   rw [zbM] at hj;omega
  ·refine List.Pairwise.map _ (fun a b hab=>?_) List.nodup_range
   rw [Ne,zab];exact hab
end
end Go.Abs
