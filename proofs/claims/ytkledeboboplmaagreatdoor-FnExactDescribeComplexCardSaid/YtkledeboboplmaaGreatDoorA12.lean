/- DERIVED by an AI agent. -/
import Derived.Test.YtkledeboboplmaaGreatDoorA11
/- DERIVED by an AI agent. The rules in heaps. No program in sight. -/
namespace Go.Abs
theorem ai {a b:Prop} (h:a) (k:b):a∧b:=⟨h,k⟩
theorem gp0:type_of% (ai @zI9 <| ai @zJa <| ai @zJb <| ai @zJc <| ai @zJd <| ai @zJe <| ai @zJf <| ai @zJg <| ai @zub <| ai @ziO <| ai @ziP <| ai @zyt <| ai @zuc <| ai @zpQ <| ai @zud <| @zue):=ai @zI9 <| ai @zJa <| ai @zJb <| ai @zJc <| ai @zJd <| ai @zJe <| ai @zJf <| ai @zJg <| ai @zub <| ai @ziO <| ai @ziP <| ai @zyt <| ai @zuc <| ai @zpQ <| ai @zud <| @zue
theorem gp1:type_of% (ai @zyu <| ai @zpR <| ai @zuf <| ai @zyv <| ai @zug <| ai @zuh <| ai @zyw <| ai @zg8 <| ai @zkj <| ai @zui <| ai @zpS <| ai @zuj <| ai @zpV <| ai @zpY <| ai @zmU <| @zmV):=ai @zyu <| ai @zpR <| ai @zuf <| ai @zyv <| ai @zug <| ai @zuh <| ai @zyw <| ai @zg8 <| ai @zkj <| ai @zui <| ai @zpS <| ai @zuj <| ai @zpV <| ai @zpY <| ai @zmU <| @zmV
theorem gp2:type_of% (ai @zkl <| ai @zuB <| ai @zgh <| ai @zgi <| ai @zfn <| ai @zea <| ai @zgj <| ai @zgk <| ai @zuC <| ai @zyM <| ai @zED <| ai @zkp <| ai @zuD <| ai @zha <| ai @zkq <| @zhc):=ai @zkl <| ai @zuB <| ai @zgh <| ai @zgi <| ai @zfn <| ai @zea <| ai @zgj <| ai @zgk <| ai @zuC <| ai @zyM <| ai @zED <| ai @zkp <| ai @zuD <| ai @zha <| ai @zkq <| @zhc
theorem gp3:type_of% (ai @zp7 <| ai @zks <| ai @ziQ <| ai @ziR <| ai @zyN <| ai @zyO <| ai @zyP <| ai @zm4 <| ai @zqa <| ai @zgl <| ai @zqb <| ai @znj <| ai @znd <| ai @znf <| ai @zne <| @zqc):=ai @zp7 <| ai @zks <| ai @ziQ <| ai @ziR <| ai @zyN <| ai @zyO <| ai @zyP <| ai @zm4 <| ai @zqa <| ai @zgl <| ai @zqb <| ai @znj <| ai @znd <| ai @znf <| ai @zne <| @zqc
theorem gp4:type_of% (ai @zyS <| ai @zgm <| ai @zqf <| ai @zuL <| ai @zqi <| ai @zvC <| ai @zra <| ai @zvD <| ai @znL <| ai @zkw <| ai @zkx <| ai @zuN <| ai @znb <| ai @zuO <| ai @zEH <| @zky):=ai @zyS <| ai @zgm <| ai @zqf <| ai @zuL <| ai @zqi <| ai @zvC <| ai @zra <| ai @zvD <| ai @znL <| ai @zkw <| ai @zkx <| ai @zuN <| ai @znb <| ai @zuO <| ai @zEH <| @zky
theorem gp5:type_of% (ai @zuP <| ai @zhi <| ai @zqp <| ai @zhk <| ai @zqq <| ai @zkA <| ai @ziT <| ai @ziU <| ai @zqr <| ai @zyY <| ai @zqz <| ai @zqA <| ai @zuW <| ai @zqB <| ai @zkG <| @zkH):=ai @zuP <| ai @zhi <| ai @zqp <| ai @zhk <| ai @zqq <| ai @zkA <| ai @ziT <| ai @ziU <| ai @zqr <| ai @zyY <| ai @zqz <| ai @zqA <| ai @zuW <| ai @zqB <| ai @zkG <| @zkH
theorem gp6:type_of% (ai @ziV <| ai @zgn <| ai @zqm <| ai @zvW <| ai @zrn <| ai @zvX <| ai @zrp <| ai @zro <| ai @zvY <| ai @zvU <| ai @zrl <| ai @zvZ <| ai @zrs <| ai @zrt <| ai @znQ <| @zz8):=ai @ziV <| ai @zgn <| ai @zqm <| ai @zvW <| ai @zrn <| ai @zvX <| ai @zrp <| ai @zro <| ai @zvY <| ai @zvU <| ai @zrl <| ai @zvZ <| ai @zrs <| ai @zrt <| ai @znQ <| @zz8
theorem gp7:type_of% (ai @zvV <| ai @zrm <| ai @zy4 <| ai @zqC <| ai @zy5 <| ai @zEM <| ai @zJo <| ai @znm <| ai @zy6 <| ai @ziW <| ai @zuX <| ai @ziX <| ai @zuY <| ai @znn <| ai @zkI <| @zkJ):=ai @zvV <| ai @zrm <| ai @zy4 <| ai @zqC <| ai @zy5 <| ai @zEM <| ai @zJo <| ai @znm <| ai @zy6 <| ai @ziW <| ai @zuX <| ai @ziX <| ai @zuY <| ai @znn <| ai @zkI <| @zkJ
theorem gp8:type_of% (ai @zEN <| ai @zEO <| ai @zEP <| ai @zqD <| ai @zqE <| ai @zqH <| ai @zuZ <| ai @zy7 <| ai @zEQ <| ai @zqG <| ai @zkK <| ai @zqI <| ai @zu0 <| ai @zy8 <| ai @ziY <| @zqJ):=ai @zEN <| ai @zEO <| ai @zEP <| ai @zqD <| ai @zqE <| ai @zqH <| ai @zuZ <| ai @zy7 <| ai @zEQ <| ai @zqG <| ai @zkK <| ai @zqI <| ai @zu0 <| ai @zy8 <| ai @ziY <| @zqJ
theorem gp9:type_of% (ai @zu3 <| ai @zER <| ai @zhl <| ai @zu4 <| ai @zy9 <| ai @zCI <| ai @zm3 <| ai @zkr <| ai @zhb <| ai @znc <| ai @zkz <| @zhj):=ai @zu3 <| ai @zER <| ai @zhl <| ai @zu4 <| ai @zy9 <| ai @zCI <| ai @zm3 <| ai @zkr <| ai @zhb <| ai @znc <| ai @zkz <| @zhj
theorem gp:type_of% (ai @gp0 <| ai @gp1 <| ai @gp2 <| ai @gp3 <| ai @gp4 <| ai @gp5 <| ai @gp6 <| ai @gp7 <| ai @gp8 <| @gp9):=ai @gp0 <| ai @gp1 <| ai @gp2 <| ai @gp3 <| ai @gp4 <| ai @gp5 <| ai @gp6 <| ai @gp7 <| ai @gp8 <| @gp9
theorem gq0:type_of% (ai @zI8 <| ai @zEr <| ai @zyp <| ai @zyq <| ai @zt9 <| ai @zEs <| ai @zyr <| ai @zys <| ai @zua <| ai @zay <| ai @zaO <| ai @zjH <| ai @zeY <| ai @zt5 <| ai @zaF <| @zas):=ai @zI8 <| ai @zEr <| ai @zyp <| ai @zyq <| ai @zt9 <| ai @zEs <| ai @zyr <| ai @zys <| ai @zua <| ai @zay <| ai @zaO <| ai @zjH <| ai @zeY <| ai @zt5 <| ai @zaF <| @zas
theorem gq1:type_of% (ai @zg3 <| ai @zg4 <| ai @zox <| ai @zt6 <| ai @zyo <| ai @zt7 <| ai @zoy <| ai @zg5 <| ai @zt8 <| ai @zEq <| ai @zoz <| ai @zoA <| ai @zg6 <| ai @zg7 <| ai @zjI <| @zjJ):=ai @zg3 <| ai @zg4 <| ai @zox <| ai @zt6 <| ai @zyo <| ai @zt7 <| ai @zoy <| ai @zg5 <| ai @zt8 <| ai @zEq <| ai @zoz <| ai @zoA <| ai @zg6 <| ai @zg7 <| ai @zjI <| @zjJ
theorem gq2:type_of% (ai @zjK <| ai @zmT <| ai @zEt <| ai @zEu <| ai @zEv <| ai @zEw <| ai @zyG <| ai @zpW <| ai @zun <| ai @zpX <| ai @zEz <| ai @getElem?_zero <| ai @getElem?_succ <| ai @zpZ <| ai @zzk <| @zzl):=ai @zjK <| ai @zmT <| ai @zEt <| ai @zEu <| ai @zEv <| ai @zEw <| ai @zyG <| ai @zpW <| ai @zun <| ai @zpX <| ai @zEz <| ai @getElem?_zero <| ai @getElem?_succ <| ai @zpZ <| ai @zzk <| @zzl
theorem gq3:type_of% (ai @zzm <| ai @zzn <| ai @zzo <| ai @zzp <| ai @zES <| ai @zzq <| ai @znq <| ai @zzr <| ai @zzs <| ai @zzt <| ai @zzu <| ai @zzv <| ai @zzw <| ai @zzx <| ai @zzy <| @zkL):=ai @zzm <| ai @zzn <| ai @zzo <| ai @zzp <| ai @zES <| ai @zzq <| ai @znq <| ai @zzr <| ai @zzs <| ai @zzt <| ai @zzu <| ai @zzv <| ai @zzw <| ai @zzx <| ai @zzy <| @zkL
theorem gq4:type_of% (ai @zkM <| ai @zkN <| ai @ziZ <| ai @zi0 <| ai @zET <| ai @zEU <| ai @zu8 <| ai @zzz <| ai @znr <| ai @znt <| ai @zns <| ai @zEV <| ai @zzA <| ai @zEW <| ai @zzB <| @znu):=ai @zkM <| ai @zkN <| ai @ziZ <| ai @zi0 <| ai @zET <| ai @zEU <| ai @zu8 <| ai @zzz <| ai @znr <| ai @znt <| ai @zns <| ai @zEV <| ai @zzA <| ai @zEW <| ai @zzB <| @znu
theorem gq5:type_of% (ai @znv <| ai @znw <| ai @zJq <| ai @zJr <| ai @zEX <| ai @zzF <| ai @zEY <| ai @zqO <| ai @zqN <| ai @zJs <| ai @zJt <| ai @zJu <| ai @zJv <| ai @zE0 <| ai @zJw <| @zJx):=ai @znv <| ai @znw <| ai @zJq <| ai @zJr <| ai @zEX <| ai @zzF <| ai @zEY <| ai @zqO <| ai @zqN <| ai @zJs <| ai @zJt <| ai @zJu <| ai @zJv <| ai @zE0 <| ai @zJw <| @zJx
theorem gq6:type_of% (ai @zJy <| ai @zJz <| ai @zzG <| ai @List.drop_succ_cons.{0} <| ai @List.drop_zero.{0} <| ai @List.take_succ_cons.{0} <| ai @List.take_zero.{0} <| ai @zwV <| ai @zEZ <| ai @zva <| ai @zvc <| ai @zfp <| ai @zhm <| ai @zqP <| ai @zqQ <| @zvd):=ai @zJy <| ai @zJz <| ai @zzG <| ai @List.drop_succ_cons.{0} <| ai @List.drop_zero.{0} <| ai @List.take_succ_cons.{0} <| ai @List.take_zero.{0} <| ai @zwV <| ai @zEZ <| ai @zva <| ai @zvc <| ai @zfp <| ai @zhm <| ai @zqP <| ai @zqQ <| @zvd
theorem gq7:type_of% (ai @zve <| ai @zkP <| ai @zqR <| ai @zny <| ai @zqS <| ai @znz <| ai @zvf <| ai @zqT <| ai @zvg <| ai @zqU <| ai @zvh <| ai @zE1 <| ai @zvi <| ai @zvj <| ai @zyh <| @zyg):=ai @zve <| ai @zkP <| ai @zqR <| ai @zny <| ai @zqS <| ai @znz <| ai @zvf <| ai @zqT <| ai @zvg <| ai @zqU <| ai @zvh <| ai @zE1 <| ai @zvi <| ai @zvj <| ai @zyh <| @zyg
theorem gq8:type_of% (ai @zyj <| ai @zyi <| ai @zt3 <| ai @zt2 <| ai @znA <| ai @znB <| ai @zzL <| ai @zoG <| ai @zvq <| ai @zqW <| ai @zqX <| ai @znD <| ai @znE <| ai @zqY <| ai @zE3 <| @zzM):=ai @zyj <| ai @zyi <| ai @zt3 <| ai @zt2 <| ai @znA <| ai @znB <| ai @zzL <| ai @zoG <| ai @zvq <| ai @zqW <| ai @zqX <| ai @znD <| ai @znE <| ai @zqY <| ai @zE3 <| @zzM
theorem gq9:type_of% (ai @zzN <| ai @zvr <| ai @zkR <| ai @zkS <| ai @zvt <| ai @zq1 <| ai @zq0 <| ai @znF <| ai @znG <| ai @znH <| ai @znI <| ai @zzO <| ai @zvs <| ai @zqZ <| ai @zE4 <| @zzP):=ai @zzN <| ai @zvr <| ai @zkR <| ai @zkS <| ai @zvt <| ai @zq1 <| ai @zq0 <| ai @znF <| ai @znG <| ai @znH <| ai @znI <| ai @zzO <| ai @zvs <| ai @zqZ <| ai @zE4 <| @zzP
theorem zMj:type_of% (ai @zq2 <| ai @zvu <| ai @zoH <| ai @zvv <| ai @List.length_cons.{0} <| ai @List.length_nil.{0} <| ai @List.not_mem_nil.{0} <| ai @List.mem_cons.{0} <| ai @or_false <| ai @zq3 <| ai @zvw <| ai @zm6 <| ai @zvx <| ai @zvy <| ai @znJ <| @znK):=ai @zq2 <| ai @zvu <| ai @zoH <| ai @zvv <| ai @List.length_cons.{0} <| ai @List.length_nil.{0} <| ai @List.not_mem_nil.{0} <| ai @List.mem_cons.{0} <| ai @or_false <| ai @zq3 <| ai @zvw <| ai @zm6 <| ai @zvx <| ai @zvy <| ai @znJ <| @znK
theorem zMk:type_of% (ai @zzR <| ai @zzS <| ai @zzT <| ai @zvz <| ai @zJC <| ai @zzZ <| ai @zie <| ai @zho <| ai @zjQ <| ai @zrd <| ai @zre <| ai @zrf <| ai @zrg <| ai @zrh <| ai @imm_ag <| @imm_tup):=ai @zzR <| ai @zzS <| ai @zzT <| ai @zvz <| ai @zJC <| ai @zzZ <| ai @zie <| ai @zho <| ai @zjQ <| ai @zrd <| ai @zre <| ai @zrf <| ai @zrg <| ai @zrh <| ai @imm_ag <| @imm_tup
theorem zMl:type_of% (ai @zz0 <| ai @zvJ <| ai @zz1 <| ai @zvK <| ai @zri <| ai @zE5 <| ai @zE6 <| ai @znO <| ai @zvL <| ai @zvM <| ai @zE7 <| ai @zE8 <| ai @zvN <| ai @zrj <| ai @zkV <| @zvO):=ai @zz0 <| ai @zvJ <| ai @zz1 <| ai @zvK <| ai @zri <| ai @zE5 <| ai @zE6 <| ai @znO <| ai @zvL <| ai @zvM <| ai @zE7 <| ai @zE8 <| ai @zvN <| ai @zrj <| ai @zkV <| @zvO
theorem zMm:type_of% (ai @zz2 <| ai @zz3 <| ai @zvQ <| ai @zvR <| ai @zk0 <| ai @zkZ <| ai @zk1 <| ai @zp8 <| ai @zm5 <| ai @zyT <| ai @zuJ <| ai @zEE <| ai @zuE <| ai @zuG <| ai @zyV <| @zqh):=ai @zz2 <| ai @zz3 <| ai @zvQ <| ai @zvR <| ai @zk0 <| ai @zkZ <| ai @zk1 <| ai @zp8 <| ai @zm5 <| ai @zyT <| ai @zuJ <| ai @zEE <| ai @zuE <| ai @zuG <| ai @zyV <| @zqh
theorem zMn:type_of% (ai @zqg <| ai @zm2 <| ai @zpI <| ai @zpJ <| ai @zpK <| ai @zpL <| ai @zia <| ai @zpM <| ai @zyd <| ai @zyf <| ai @zpO <| ai @zow <| ai @zmR <| ai @zpN <| ai @zye <| @zEh):=ai @zqg <| ai @zm2 <| ai @zpI <| ai @zpJ <| ai @zpK <| ai @zpL <| ai @zia <| ai @zpM <| ai @zyd <| ai @zyf <| ai @zpO <| ai @zow <| ai @zmR <| ai @zpN <| ai @zye <| @zEh
theorem zMo:type_of% (ai @zEi <| ai @zEj <| ai @zEk <| ai @zEl <| ai @zEm <| ai @zyk <| ai @zEn <| ai @zEg <| ai @zEo <| ai @zyl <| ai @zc6 <| ai @zfm <| ai @zyn <| ai @zt4 <| ai @zmS <| @zpP):=ai @zEi <| ai @zEj <| ai @zEk <| ai @zEl <| ai @zEm <| ai @zyk <| ai @zEn <| ai @zEg <| ai @zEo <| ai @zyl <| ai @zc6 <| ai @zfm <| ai @zyn <| ai @zt4 <| ai @zmS <| @zpP
theorem zMp:type_of% (ai @List.map_nil.{0,0} <| ai @List.map_cons.{0,0} <| ai @List.append_nil.{0} <| ai @List.nil_append.{0} <| ai @List.cons_append.{0} <| ai @List.getElem?_cons_zero.{0} <| ai @List.getElem?_cons_succ.{0} <| ai @ne_eq.{1} <| ai @not_false_eq_true <| ai @not_true_eq_false <| ai @true_and <| ai @and_true <| ai @false_and <| ai @and_false <| ai @and_self <| @true_implies):=ai @List.map_nil.{0,0} <| ai @List.map_cons.{0,0} <| ai @List.append_nil.{0} <| ai @List.nil_append.{0} <| ai @List.cons_append.{0} <| ai @List.getElem?_cons_zero.{0} <| ai @List.getElem?_cons_succ.{0} <| ai @ne_eq.{1} <| ai @not_false_eq_true <| ai @not_true_eq_false <| ai @true_and <| ai @and_true <| ai @false_and <| ai @and_false <| ai @and_self <| @true_implies
theorem zMq:type_of% (ai @Bool.not_true <| ai @Bool.not_false <| ai @eq_self.{1} <| ai @Bool.true_eq_false <| ai @Bool.false_eq_true <| ai @false_implies <| ai @implies_true.{0} <| ai @implies_true.{1} <| ai @zzY <| ai @Int.le_refl <| ai @Nat.le_refl <| ai @Int.toNat_natCast <| ai @Int.natCast_nonneg <| ai @Int.ofNat_lt <| ai @Int.ofNat_le <| @PV.v.injEq):=ai @Bool.not_true <| ai @Bool.not_false <| ai @eq_self.{1} <| ai @Bool.true_eq_false <| ai @Bool.false_eq_true <| ai @false_implies <| ai @implies_true.{0} <| ai @implies_true.{1} <| ai @zzY <| ai @Int.le_refl <| ai @Nat.le_refl <| ai @Int.toNat_natCast <| ai @Int.natCast_nonneg <| ai @Int.ofNat_lt <| ai @Int.ofNat_le <| @PV.v.injEq
theorem zMr:type_of% (ai @Value.bool.injEq <| ai @Value.int.injEq <| ai @Value.string.injEq <| ai @List.nodup_nil.{0} <| ai @zq7 <| ai @zq8 <| ai @beq_self_eq_true.{0} <| ai @decide_eq_true_eq <| ai @decide_eq_false_iff_not <| ai @zuM <| ai @zqj <| ai @zkv <| ai @zm9 <| ai @zku <| ai @zqk <| @zna):=ai @Value.bool.injEq <| ai @Value.int.injEq <| ai @Value.string.injEq <| ai @List.nodup_nil.{0} <| ai @zq7 <| ai @zq8 <| ai @beq_self_eq_true.{0} <| ai @decide_eq_true_eq <| ai @decide_eq_false_iff_not <| ai @zuM <| ai @zqj <| ai @zkv <| ai @zm9 <| ai @zku <| ai @zqk <| @zna
theorem zMs:type_of% (ai @zql <| ai @zEG <| ai @zyX <| ai @zqn <| ai @zqo <| ai @zuH <| ai @zp9 <| ai @zjS <| ai @zjT <| ai @zvT <| ai @zCN <| ai @zCO <| ai @zz5 <| ai @zz6 <| ai @zoK <| @zoL):=ai @zql <| ai @zEG <| ai @zyX <| ai @zqn <| ai @zqo <| ai @zuH <| ai @zp9 <| ai @zjS <| ai @zjT <| ai @zvT <| ai @zCN <| ai @zCO <| ai @zz5 <| ai @zz6 <| ai @zoK <| @zoL
theorem zMt:type_of% (ai @zvE <| ai @zvF <| ai @zrb <| ai @zvG <| ai @zvH <| ai @zvI <| ai @znN <| ai @znM <| ai @zrc <| ai @zqd <| ai @zm7 <| ai @zqe <| ai @zm8 <| ai @if_true.{1} <| ai @if_false.{1} <| @Nat.zero_le):=ai @zvE <| ai @zvF <| ai @zrb <| ai @zvG <| ai @zvH <| ai @zvI <| ai @znN <| ai @znM <| ai @zrc <| ai @zqd <| ai @zm7 <| ai @zqe <| ai @zm8 <| ai @if_true.{1} <| ai @if_false.{1} <| @Nat.zero_le
theorem zMu:type_of% (ai @Bool.true_and <| ai @Bool.and_true <| ai @Bool.and_self <| ai @zoB <| ai @zoC <| ai @zoD <| ai @zjL <| ai @zuK <| ai @zjM <| ai @zjN <| ai @zjO <| ai @zjP <| ai @zhd <| ai @zhe <| ai @zhf <| @zhg):=ai @Bool.true_and <| ai @Bool.and_true <| ai @Bool.and_self <| ai @zoB <| ai @zoC <| ai @zoD <| ai @zjL <| ai @zuK <| ai @zjM <| ai @zjN <| ai @zjO <| ai @zjP <| ai @zhd <| ai @zhe <| ai @zhf <| @zhg
theorem zMv:type_of% (ai @zpT <| ai @zJh <| ai @zJi <| ai @zuo <| ai @zEA <| ai @zyH <| ai @zp0 <| ai @zup <| ai @zuq <| ai @zp1 <| ai @zur <| ai @zus <| ai @zyI <| ai @zut <| ai @zEB <| @zyJ):=ai @zpT <| ai @zJh <| ai @zJi <| ai @zuo <| ai @zEA <| ai @zyH <| ai @zp0 <| ai @zup <| ai @zuq <| ai @zp1 <| ai @zur <| ai @zus <| ai @zyI <| ai @zut <| ai @zEB <| @zyJ
theorem zMw:type_of% (ai @zp2 <| ai @zuu <| ai @zuv <| ai @zuw <| ai @zux <| ai @zp3 <| ai @zEC <| ai @zyK <| ai @zp4 <| ai @zp5 <| ai @zuy <| ai @zmW <| ai @zmX <| ai @zmY <| ai @zyL <| @zuz):=ai @zp2 <| ai @zuu <| ai @zuv <| ai @zuw <| ai @zux <| ai @zp3 <| ai @zEC <| ai @zyK <| ai @zp4 <| ai @zp5 <| ai @zuy <| ai @zmW <| ai @zmX <| ai @zmY <| ai @zyL <| @zuz
theorem zMx:type_of% (ai @zuA <| ai @zmZ <| ai @zm0 <| ai @zm1 <| ai @zEx <| ai @zyy <| ai @zyz <| ai @zuk <| ai @zul <| ai @zpU <| ai @zyA <| ai @zum <| ai @zyB <| ai @zEy <| ai @zyC <| @zyD):=ai @zuA <| ai @zmZ <| ai @zm0 <| ai @zm1 <| ai @zEx <| ai @zyy <| ai @zyz <| ai @zuk <| ai @zul <| ai @zpU <| ai @zyA <| ai @zum <| ai @zyB <| ai @zEy <| ai @zyC <| @zyD
theorem zMy:type_of% (ai @zyE <| ai @zyF <| ai @Bool.or_false <| ai @Bool.false_or <| ai @Bool.or_self <| ai @Bool.or_true <| ai @Bool.true_or <| ai @Bool.false_and <| ai @Bool.and_false <| ai @zvk <| ai @zzH <| ai @zvl <| ai @zvm <| ai @zvn <| ai @zzI <| @znC):=ai @zyE <| ai @zyF <| ai @Bool.or_false <| ai @Bool.false_or <| ai @Bool.or_self <| ai @Bool.or_true <| ai @Bool.true_or <| ai @Bool.false_and <| ai @Bool.and_false <| ai @zvk <| ai @zzH <| ai @zvl <| ai @zvm <| ai @zvn <| ai @zzI <| @znC
theorem zMz:type_of% (ai @zzJ <| ai @zE2 <| ai @zvp <| ai @zkQ <| ai @zqV <| ai @zq4 <| ai @zq5 <| ai @zq6 <| ai @zvA <| ai @zzU <| ai @zzV <| ai @zzW <| ai @zzX <| ai @zvB <| ai @zrk <| @zvP):=ai @zzJ <| ai @zE2 <| ai @zvp <| ai @zkQ <| ai @zqV <| ai @zq4 <| ai @zq5 <| ai @zq6 <| ai @zvA <| ai @zzU <| ai @zzV <| ai @zzW <| ai @zzX <| ai @zvB <| ai @zrk <| @zvP
theorem zMA:type_of% (ai @zkX <| ai @zkY <| ai @zEJ <| ai @zyZ <| ai @zy0 <| ai @zqs <| ai @zuQ <| ai @zuS <| ai @znh <| ai @zng <| ai @zni <| ai @zkC <| ai @zkB <| ai @zuT <| ai @zy1 <| @znk):=ai @zkX <| ai @zkY <| ai @zEJ <| ai @zyZ <| ai @zy0 <| ai @zqs <| ai @zuQ <| ai @zuS <| ai @znh <| ai @zng <| ai @zni <| ai @zkC <| ai @zkB <| ai @zuT <| ai @zy1 <| @znk
theorem zMB:type_of% (ai @zuU <| ai @zqt <| ai @zqu <| ai @zEL <| ai @zy3 <| ai @zuV <| ai @zkD <| ai @zkE <| ai @zkF <| ai @zqv <| ai @zqx <| ai @zqy <| ai @znl <| ai @zk3 <| ai @zKA <| @zCP):=ai @zuU <| ai @zqt <| ai @zqu <| ai @zEL <| ai @zy3 <| ai @zuV <| ai @zkD <| ai @zkE <| ai @zkF <| ai @zqv <| ai @zqx <| ai @zqy <| ai @znl <| ai @zk3 <| ai @zKA <| @zCP
theorem zMC:type_of% (ai @zar <| ai @zhp <| ai @zfT <| ai @zhq <| ai @zrq <| ai @znP <| ai @zz7 <| ai @zrr <| ai @zjU <| ai @zjV <| ai @zoM <| ai @zev <| ai @zfr <| ai @zdy <| ai @zfs <| @zed):=ai @zar <| ai @zhp <| ai @zfT <| ai @zhq <| ai @zrq <| ai @znP <| ai @zz7 <| ai @zrr <| ai @zjU <| ai @zjV <| ai @zoM <| ai @zev <| ai @zfr <| ai @zdy <| ai @zfs <| @zed
theorem zMD:type_of% (ai @List.length_set.{0} <| ai @List.length_range <| ai @zhr <| ai @zhs <| ai @zko <| ai @zp6 <| ai @zk5 <| ai @zFa <| ai @zoS <| ai @zoT <| ai @zgD <| ai @zdg <| ai @zza <| ai @zzb <| ai @zu5 <| @zu6):=ai @List.length_set.{0} <| ai @List.length_range <| ai @zhr <| ai @zhs <| ai @zko <| ai @zp6 <| ai @zk5 <| ai @zFa <| ai @zoS <| ai @zoT <| ai @zgD <| ai @zdg <| ai @zza <| ai @zzb <| ai @zu5 <| @zu6
theorem zME:type_of% (ai @zzc <| ai @zzd <| ai @zze <| ai @zzf <| ai @zno <| ai @znp <| ai @zzg <| ai @zzh <| ai @zqK <| ai @zqL <| ai @zzi <| ai @zzj <| ai @zu7 <| ai @zu9 <| ai @znx <| @zzD):=ai @zzc <| ai @zzd <| ai @zze <| ai @zzf <| ai @zno <| ai @znp <| ai @zzg <| ai @zzh <| ai @zqK <| ai @zqL <| ai @zzi <| ai @zzj <| ai @zu7 <| ai @zu9 <| ai @znx <| @zzD
theorem zMF:type_of% (@zqM):=@zqM
theorem gq:type_of% (ai @gq0 <| ai @gq1 <| ai @gq2 <| ai @gq3 <| ai @gq4 <| ai @gq5 <| ai @gq6 <| ai @gq7 <| ai @gq8 <| ai @gq9 <| ai @zMj <| ai @zMk <| ai @zMl <| ai @zMm <| ai @zMn <| ai @zMo <| ai @zMp <| ai @zMq <| ai @zMr <| ai @zMs <| ai @zMt <| ai @zMu <| ai @zMv <| ai @zMw <| ai @zMx <| ai @zMy <| ai @zMz <| ai @zMA <| ai @zMB <| ai @zMC <| ai @zMD <| ai @zME <| @zMF):=ai @gq0 <| ai @gq1 <| ai @gq2 <| ai @gq3 <| ai @gq4 <| ai @gq5 <| ai @gq6 <| ai @gq7 <| ai @gq8 <| ai @gq9 <| ai @zMj <| ai @zMk <| ai @zMl <| ai @zMm <| ai @zMn <| ai @zMo <| ai @zMp <| ai @zMq <| ai @zMr <| ai @zMs <| ai @zMt <| ai @zMu <| ai @zMv <| ai @zMw <| ai @zMx <| ai @zMy <| ai @zMz <| ai @zMA <| ai @zMB <| ai @zMC <| ai @zMD <| ai @zME <| @zMF
theorem gr0:type_of% (ai @zay <| ai @zaO <| ai @zjH <| ai @zeY <| ai @zt5 <| ai @zaF <| ai @zas <| ai @zg3 <| ai @zg4 <| ai @zox <| ai @zjJ <| ai @zjK <| ai @zho <| ai @zjQ <| ai @zoz <| @zoA):=ai @zay <| ai @zaO <| ai @zjH <| ai @zeY <| ai @zt5 <| ai @zaF <| ai @zas <| ai @zg3 <| ai @zg4 <| ai @zox <| ai @zjJ <| ai @zjK <| ai @zho <| ai @zjQ <| ai @zoz <| @zoA
theorem gr1:type_of% (ai @zg6 <| ai @zg7 <| ai @zjI <| ai @zt6 <| ai @zt7 <| ai @zoy <| ai @zg5 <| ai @ne_eq.{1} <| ai @not_false_eq_true <| ai @not_true_eq_false <| ai @List.mem_cons.{0} <| ai @List.not_mem_nil.{0} <| ai @or_false <| ai @if_true.{1} <| ai @if_false.{1} <| @zjS):=ai @zg6 <| ai @zg7 <| ai @zjI <| ai @zt6 <| ai @zt7 <| ai @zoy <| ai @zg5 <| ai @ne_eq.{1} <| ai @not_false_eq_true <| ai @not_true_eq_false <| ai @List.mem_cons.{0} <| ai @List.not_mem_nil.{0} <| ai @or_false <| ai @if_true.{1} <| ai @if_false.{1} <| @zjS
theorem gr2:type_of% (ai @zjT <| ai @zvT <| ai @zCN <| ai @zCO <| ai @zoK <| ai @zoL <| ai @List.nil_append.{0} <| ai @List.cons_append.{0} <| ai @List.append_nil.{0} <| ai @zoB <| ai @zoC <| ai @zoD <| ai @zjL <| ai @zuK <| ai @zjM <| @zjN):=ai @zjT <| ai @zvT <| ai @zCN <| ai @zCO <| ai @zoK <| ai @zoL <| ai @List.nil_append.{0} <| ai @List.cons_append.{0} <| ai @List.append_nil.{0} <| ai @zoB <| ai @zoC <| ai @zoD <| ai @zjL <| ai @zuK <| ai @zjM <| @zjN
theorem gr3:type_of% (ai @zjO <| ai @zjP <| ai @zhd <| ai @zhe <| ai @zhf <| ai @zhg <| ai @zKA <| ai @zCP <| ai @zar <| ai @zhp <| ai @zfT <| ai @zhq <| ai @zjU <| ai @zjV <| ai @zoM <| @zev):=ai @zjO <| ai @zjP <| ai @zhd <| ai @zhe <| ai @zhf <| ai @zhg <| ai @zKA <| ai @zCP <| ai @zar <| ai @zhp <| ai @zfT <| ai @zhq <| ai @zjU <| ai @zjV <| ai @zoM <| @zev
theorem gr4:type_of% (ai @zfr <| ai @zdy <| ai @zfs <| ai @zed <| ai @List.length_set.{0} <| ai @List.length_range <| ai @zhr <| ai @zhs <| ai @zdg <| ai @zoS <| ai @zoT <| @zgD):=ai @zfr <| ai @zdy <| ai @zfs <| ai @zed <| ai @List.length_set.{0} <| ai @List.length_range <| ai @zhr <| ai @zhs <| ai @zdg <| ai @zoS <| ai @zoT <| @zgD
theorem gr:type_of% (ai @gr0 <| ai @gr1 <| ai @gr2 <| ai @gr3 <| @gr4):=ai @gr0 <| ai @gr1 <| ai @gr2 <| ai @gr3 <| @gr4
end Go.Abs

/- DERIVED by an AI agent. Tables: numbers of inner rows, their cells; a row that becomes a table's. No program in sight. -/
namespace Go.Abs
set_option linter.unusedSimpArgs false
def zjr (k n i:Nat):List PV:=(List.range n).map fun t=>if t < i then .own (sid k t) 1 else .v (.slice none 0 0)
theorem zAV (k n:Nat):List.replicate n (PV.v (.slice none 0 0)) = zjr k n 0:=by
 refine List.ext_getElem (by simp [zjr]) fun t a b=>by simp [zjr]
theorem zbN (k n i:Nat):(zjr k n i).length = n:=by simp [zjr]
theorem zC8 (k n:Nat):zjr k n n = zaI k (List.range n):=by
 refine List.ext_getElem (by simp [zjr,zaI]) fun t a b=>?_
 have:t < n:=by simpa [zjr] using a
 simp [zjr,zaI,this]
theorem zC9 [zae] {k n i d v:Nat} (h:i < n):(zjr k n (i + 1)).length = (spl (zjr k n i) i [.own d v]).length ∧
 ∀ t (a:t < (spl (zjr k n i) i [PV.own d v]).length) (b:t < (zjr k n (i + 1)).length),(zjr k n (i + 1))[t] = (spl (zjr k n i) i [PV.own d v])[t] ∨ ((spl (zjr k n i) i [PV.own d v])[t] = .own d v∧(zjr k n (i + 1))[t] = .own (sid k i) 1):=by
 rw [zGh (by rw [zbN];exact h)]
 refine ⟨by simp [zbN],fun t a b=>?_⟩
 rw [List.getElem_set]
 by_cases he:i = t
 ·subst he
  rw [if_pos rfl]
  refine .inr ⟨rfl,?_⟩
  simp [zjr]
 ·rw [if_neg he]
  refine .inl ?_
  simp only [zjr,List.getElem_map,List.getElem_range]
  by_cases ht:t < i
  ·rw [if_pos ht,if_pos (by omega)]
  ·rw [if_neg ht,if_neg (by omega)]
section
variable {P:Program} {T:Tab} {s:St}
theorem Wk.tab [zae] {k v e:Nat} {c:List PV} (hk:s.rw k = ⟨v,.sli e 1 false c⟩) (hc:zbM c):Wk s (s.row k ⟨v,.tab e c⟩):=by
 intro G a w ⟨E,hs⟩
 have hR:E.R k = ⟨v,.sli e 1 false c⟩:=by rw [hs.rw];exact hk
 have ht:OneTurn E w w k ⟨v,.tab e c⟩ (E.rm k) (E.rv k) :=
  ⟨fun _ _ _=>rfl,fun b hb _=>.inr ⟨hb,by rw [hR];rfl,fun _=>by rw [hR];rfl⟩,by rw [hR];exact Nat.le_refl _,
   fun _ _=>⟨by rw [hR];rfl,rfl⟩,fun _ _=>⟨by rw [hR];rfl,rfl⟩,fun _=>by have:=hs.wok.pos k (by rw [hR];rfl);rw [hR] at this;exact this,Nat.le_refl _,rfl,rfl,⟨rfl,fun _=>by first | exact Nat.le_refl _ | exact Nat.le_succ _⟩⟩
 have hturn:=ht.turn (fz:=[]) hs.wok
 have hrows:=ht.rows (fz:=[]) hs.wok (fun j hj=>by cases hj) (fun hl=>by
  have hrow:=hs.wok.rows k
  unfold zav at hrow ⊢
  rw [hR] at hrow
  simp only [Env.turn,zaf]
  rcases hrow with h | ⟨b,n,cap,vs,rest,h1,h2,h3,h4,h5,h6,h7,h8,h9⟩
  ·exact .inl h
  ·exact .inr ⟨b,n,cap,vs,rest,h1,h2,h3,h4,by omega,h6,h7,by omega,zc7 hc h9⟩)
 have:=hturn.sim hs hrows
 refine ⟨E.turn [] k ⟨v,.tab e c⟩ (E.rm k) (E.rv k),?_⟩
 have e:({ s with rw:=(E.turn [] k ⟨v,.tab e c⟩ (E.rm k) (E.rv k)).R }:St) = s.row k ⟨v,.tab e c⟩:=by
  have hf:zhy E.R [] = E.R:=zfY E.R
  simp only [Env.turn,hf,hs.rw]
  rfl
 rw [e] at this
 exact this
theorem Wk.ren [zae] {d k k' v vk e et sz:Nat} {c cs cs':List PV} (hd:s.rw d = ⟨v,.sli e sz false c⟩) (hk:s.rw k = ⟨vk,.tab et cs⟩) (hk':s.rw k' = ⟨0,.dead⟩) (hdl:d < lent)
 (hcs:cs'.length = cs.length∧∀ i (a:i < cs.length) (b:i < cs'.length),cs'[i] = cs[i] ∨ (cs[i] = .own d v∧cs'[i] = .own k' 1)) :
 Wk s (((s.row d ⟨v + 1,.dead⟩).row k' ⟨1,.sli e sz false c⟩).row k ⟨vk,.tab et cs'⟩):=by
 intro G a w ⟨E,hs⟩
 have hRd:E.R d = ⟨v,.sli e sz false c⟩:=by rw [hs.rw];exact hd
 have hRk:E.R k = ⟨vk,.tab et cs⟩:=by rw [hs.rw];exact hk
 have hRk':E.R k' = ⟨0,.dead⟩:=by rw [hs.rw];exact hk'
 have ndk:d ≠ k:=fun e=>by rw [e,hRk] at hRd;cases hRd
 have ndk':d ≠ k':=fun e=>by rw [e,hRk'] at hRd;cases hRd
 have nkk':k ≠ k':=fun e=>by rw [e,hRk'] at hRk;cases hRk
 let R':Nat→Row:=zcB (zcB (zcB E.R d ⟨v + 1,.dead⟩) k' ⟨1,.sli e sz false c⟩) k ⟨vk,.tab et cs'⟩
 let rm':Nat→Option Nat:=zcB (zcB E.rm d none) k' (E.rm d)
 let rv':Nat→Value:=zcB E.rv k' (E.rv d)
 let E':Env:={ R:=R',rm:=rm',rv:=rv',L:=mkL E.X R' rm',B:=E.B,X:=E.X }
 have Rk:E'.R k = ⟨vk,.tab et cs'⟩:=zaf _ _ _
 have Rk':E'.R k' = ⟨1,.sli e sz false c⟩:=by show R' k' = _;simp only [R'];rw [zal _ _ (Ne.symm nkk'),zaf]
 have Rd:E'.R d = ⟨v + 1,.dead⟩:=by show R' d = _;simp only [R'];rw [zal _ _ ndk,zal _ _ ndk',zaf]
 have Ro:∀ j,j ≠ d→j ≠ k→j ≠ k'→E'.R j = E.R j:=fun j h1 h2 h3=>by show R' j = _;simp only [R'];rw [zal _ _ h2,zal _ _ h3,zal _ _ h1]
 have Mk':E'.rm k' = E.rm d:=zaf _ _ _
 have Md:E'.rm d = none:=by show rm' d = _;simp only [rm'];rw [zal _ _ ndk',zaf]
 have Mo:∀ j,j ≠ d→j ≠ k'→E'.rm j = E.rm j:=fun j h1 h3=>by show rm' j = _;simp only [rm'];rw [zal _ _ h3,zal _ _ h1]
 have Vk':E'.rv k' = E.rv d:=zaf _ _ _
 have Vo:∀ j,j ≠ k'→E'.rv j = E.rv j:=fun j h=>zal _ _ h
 have hL:∀ b,E'.L b ↔ E.L b:=by
  intro b
  rw [hs.wok.live]
  constructor
  ·rintro (⟨j,h1,h2⟩ | hX)
   rotate_left
   ·exact .inr hX
   refine .inl ?_
   have h1:E'.rm j = some b:=h1
   have h2:(E'.R j).kind.live = true:=h2
   by_cases jk':j = k'
   ·subst jk';rw [Mk'] at h1;exact ⟨d,h1,by rw [hRd];rfl⟩
   ·by_cases jd:j = d
    ·subst jd;rw [Md] at h1;cases h1
    ·rw [Mo j jd jk'] at h1
     by_cases jk:j = k
     ·subst jk;exact ⟨j,h1,by rw [hRk];rfl⟩
     ·rw [Ro j jd jk jk'] at h2;exact ⟨j,h1,h2⟩
  ·rintro (⟨j,h1,h2⟩ | hX)
   rotate_left
   ·exact .inr hX
   refine .inl ?_
   by_cases jk':j = k'
   ·subst jk';rw [hRk'] at h2;cases h2
   ·by_cases jd:j = d
    ·subst jd;exact ⟨k',by show E'.rm k' = some b;rw [Mk'];exact h1,by show (E'.R k').kind.live = true;rw [Rk'];rfl⟩
    ·by_cases jk:j = k
     ·subst jk;exact ⟨j,by show E'.rm j = some b;rw [Mo j jd jk'];exact h1,by show (E'.R j).kind.live = true;rw [Rk];rfl⟩
     ·exact ⟨j,by show E'.rm j = some b;rw [Mo j jd jk'];exact h1,by show (E'.R j).kind.live = true;rw [Ro j jd jk jk'];exact h2⟩
 have hl:Lasts w w E E':=by
  refine ⟨fun b _ h=>⟨rfl,fun h'=>h ((hL b).1 h')⟩,fun j=>?_,fun j he hs'=>?_,fun j he hs'=>?_,Nat.le_refl _⟩
  all_goals
   by_cases jk':j = k'
   ·subst jk'
    first
     | (rw [hRk'];exact Nat.zero_le _)
     | (rw [Rk',hRk'] at he;cases he)
   ·by_cases jd:j = d
    ·subst jd
     first
      | (rw [Rd,hRd];exact Nat.le_succ _)
      | (rw [Rd] at hs';cases hs')
    ·by_cases jk:j = k
     ·subst jk
      first
       | (rw [Rk,hRk];exact Nat.le_refl _)
       | exact ⟨by rw [hRk];rfl,Vo j jk'⟩
       | exact ⟨by rw [hRk];rfl,Mo j jd jk'⟩
     ·first
       | (rw [Ro j jd jk jk'];exact Nat.le_refl _)
       | (rw [Ro j jd jk jk'] at hs';exact ⟨hs',Vo j jk'⟩)
       | (rw [Ro j jd jk jk'] at hs';exact ⟨hs',Mo j jd jk'⟩)
 have hwok:WOk G E' w:=by
  refine ⟨fun j=>?_,fun j j' b n1 n2 e1 e2=>?_,fun b=>Iff.rfl,fun j hn=>?_,hs.wok.base,hs.wok.xs,hs.wok.fx,fun j b hn hb=>?_,hs.wok.kept,fun j=>?_⟩
  ·by_cases jk':j = k'
   ·subst jk'
    have hrow:=hs.wok.rows d
    unfold zav at hrow ⊢
    rw [hRd] at hrow
    rw [Rk',Mk',Vk']
    rcases hrow with h | ⟨b,n,cap,vs,rest,h1,h2,h3,h4,h5,h6,h7,h8,h9⟩
    ·exact .inl h
    ·refine .inr ⟨b,n,cap,vs,rest,h1,?_,h3,h4,h5,h6,h7,h8,h9.mono hl.bare (Nat.le_refl _)⟩
     rcases h2 with h2 | h2
     ·exact .inl h2
     ·exact absurd h2.1 (by omega)
   ·by_cases jd:j = d
    ·subst jd;unfold zav;rw [Rd];trivial
    ·by_cases jk:j = k
     ·subst jk
      have hrow:=hs.wok.rows j
      unfold zav at hrow ⊢
      rw [hRk] at hrow
      rw [Rk,Mo j jd jk',Vo j jk']
      rcases hrow with ⟨g1,g2,g3⟩ | ⟨b,n,cap,vs,rest,h1,h2,h3,h4,h5,h6,h7,h8,h9⟩
      ·refine .inl ⟨g1,g2,List.eq_nil_of_length_eq_zero (by rw [hcs.1,g3];rfl)⟩
      ·refine .inr ⟨b,n,cap,vs,rest,h1,h2,h3,h4,h5,h6,h7,h8,by rw [hcs.1];exact h9.1,fun i a' b'=>?_⟩
       have ha:i < cs.length:=by rw [← hcs.1];exact a'
       have h0:=h9.2 i ha b'
       rcases hcs.2 i ha a' with he | ⟨he1,he2⟩
       ·rw [he];exact h0.mono hl (Nat.le_refl _)
       ·rw [he1] at h0
        rw [he2]
        cases h0 with
        | own hv hx =>
          refine .own (by rw [Rk'];exact Nat.le_refl _) fun _ _=>?_
          rw [Vk']
          exact hx (by rw [hRd]) (by rw [hRd];rfl)
     ·have hrow:=hs.wok.rows j
      unfold zav at hrow ⊢
      rw [Ro j jd jk jk',Mo j jd jk',Vo j jk']
      cases hkd:(E.R j).kind with
      | mp f=>simpa only [hkd] using hrow
      | dead=>trivial
      | nil=>simpa only [hkd] using hrow
      | box t cells =>
        simp only [hkd] at hrow ⊢
        obtain ⟨b,vs,h1,h2,h3,h4⟩:=hrow
        exact ⟨b,vs,h1,h2,h3,h4.mono hl (Nat.le_refl _)⟩
      | sli e sz fz cells =>
        simp only [hkd] at hrow ⊢
        rcases hrow with h | ⟨b,n,cap,vs,rest,h1,h2,h3,h4,h5,h6,h7,h8,h9⟩
        ·exact .inl h
        ·exact .inr ⟨b,n,cap,vs,rest,h1,h2,h3,h4,h5,h6,h7,h8,h9.mono hl.bare (Nat.le_refl _)⟩
      | tab e cells =>
        simp only [hkd] at hrow ⊢
        rcases hrow with h | ⟨b,n,cap,vs,rest,h1,h2,h3,h4,h5,h6,h7,h8,h9⟩
        ·exact .inl h
        ·exact .inr ⟨b,n,cap,vs,rest,h1,h2,h3,h4,h5,h6,h7,h8,h9.mono hl (Nat.le_refl _)⟩
  ·
   have back:∀ j b,(E'.R j).kind.nd = true→E'.rm j = some b→(if j = k' then d else j) = (if j = k' then d else j)∧(E.R (if j = k' then d else j)).kind.nd = true∧E.rm (if j = k' then d else j) = some b∧j ≠ d:=by
    intro j b hn hm
    by_cases jk':j = k'
    ·subst jk';rw [if_pos rfl];rw [Mk'] at hm;exact ⟨rfl,by rw [hRd];rfl,hm,Ne.symm ndk'⟩
    ·rw [if_neg jk']
     have jd:j ≠ d:=fun e=>by subst e;rw [Md] at hm;cases hm
     rw [Mo j jd jk'] at hm
     refine ⟨rfl,?_,hm,jd⟩
     by_cases jk:j = k
     ·subst jk;rw [hRk];rfl
     ·rw [← Ro j jd jk jk'];exact hn
   obtain ⟨_,a1,a2,a3⟩:=back j b n1 e1
   obtain ⟨_,b1,b2,b3⟩:=back j' b n2 e2
   have:=hs.wok.inj _ _ b a1 b1 a2 b2
   by_cases jk:j = k'
   ·by_cases jk2:j' = k'
    ·rw [jk,jk2]
    ·rw [if_pos jk,if_neg jk2] at this;exact absurd this.symm b3
   ·by_cases jk2:j' = k'
    ·rw [if_neg jk,if_pos jk2] at this;exact absurd this a3
    ·rw [if_neg jk,if_neg jk2] at this;exact this
  ·by_cases jk':j = k'
   ·subst jk';rw [Rk'];exact Nat.one_pos
   ·by_cases jd:j = d
    ·subst jd;rw [Rd];exact Nat.succ_pos _
    ·by_cases jk:j = k
     ·subst jk;rw [Rk];have:=hs.wok.pos j (by rw [hRk];rfl);rw [hRk] at this;exact this
     ·rw [Ro j jd jk jk'] at hn ⊢;exact hs.wok.pos j hn
  ·by_cases jk':j = k'
   ·subst jk';rw [Mk'] at hb;exact hs.wok.apart d b (by rw [hRd];rfl) hb
   ·by_cases jd:j = d
    ·subst jd;rw [Md] at hb;cases hb
    ·rw [Mo j jd jk'] at hb
     by_cases jk:j = k
     ·subst jk;exact hs.wok.apart j b (by rw [hRk];rfl) hb
     ·rw [Ro j jd jk jk'] at hn;exact hs.wok.apart j b hn hb
  ·obtain ⟨p1,p2⟩:=hs.wok.pin j
   by_cases jk':j = k'
   ·subst jk'
    rw [hRk'] at p1
    have p1:(G.pR j).ver = 0:=Nat.le_zero.1 p1
    rw [Rk']
    exact ⟨by rw [p1];exact Nat.zero_le _,fun h=>by rw [p1] at h;cases h⟩
   ·by_cases jd:j = d
    ·subst jd
     rw [Rd]
     rw [hRd] at p1
     exact ⟨Nat.le_succ_of_le p1,fun h h'=>by cases h'⟩
    ·by_cases jk:j = k
     ·subst jk
      rw [Rk,Mo j jd jk',Vo j jk']
      rw [hRk] at p1 p2
      exact ⟨p1,fun h _=>p2 h rfl⟩
     ·rw [Ro j jd jk jk',Mo j jd jk',Vo j jk'];exact ⟨p1,p2⟩
 refine ⟨E',?_,hwok,hs.size,hs.defers,fun i=>(hs.slots i).mono hl (Nat.le_refl _)⟩
 show R' = _
 simp only [R',hs.rw]
 rfl
end
end Go.Abs
namespace Go.Abs
section
variable {Q:AX→St→Prop} {s:St}
theorem zGs [zae] {α:Type} (I:α→St→Prop) (μ:α→Nat) (x0:α) {s0:St} (hw:Wk s s0) {b:(AX→St→Prop)→St→Prop} {u:Dm b} {v:Dm Q} (h0:I x0 s0) (h:∀ x s1,I x s1→b (AX.seq (zmt I μ (μ x)) Q) s1):zrA (kk b u) (kk Q v) s :=
 ⟨α,I,μ,⟨x0,s0,hw,h0⟩,h⟩
theorem zxC (n:Nat):zbM (List.replicate n (.v (.slice none 0 0))):=fun p hp=>by
 rw [(List.mem_replicate.1 hp).2];rfl
end
end Go.Abs
namespace Go.Abs
theorem zr4 {rw:Nat→Row} {e2 k:Nat}:∀ (p:List Nat) (rows:List (List PV)) (K:List Nat→Prop),rows.length = p.length →
 (∀ i (a:i < p.length) (b:i < rows.length),sid k p[i] < lent∧rw (sid k p[i]) = ⟨1,.sli e2 1 false rows[i]⟩)→K (p.map (sid k))→zrx rw e2 (zaI k p) rows K:=by
 intro p
 induction p with
 | nil=>intro rows K h _ hk;cases rows with | nil=>exact hk | cons r rs=>simp at h
 | cons j p ih =>
   intro rows K h hr hk
   cases rows with
   | nil=>simp at h
   | cons r rs =>
     have h0:=hr 0 (by simp) (by simp)
     exact ⟨h0.1,h0.2,ih rs _ (by simpa using h) (fun i a b=>hr (i + 1) (by simpa using a) (by simpa using b)) hk⟩
end Go.Abs

/- DERIVED by an AI agent. Tables of numbers: one number written, two rows swapped. No program in sight. -/
namespace Go.Abs
set_option linter.unusedSimpArgs false
set_option linter.unusedVariables false
abbrev Mat:=List (List Int)
structure TabI (rw:Nat→Row) (k v e e2:Nat) (q:List Nat) (M:Mat):Prop where
 is:TabIs rw k v e e2 q (M.map iL)
 nd:q.Nodup
theorem zc9 (M:Mat) (i:Nat):(M.map iL).getD i [] = iL (M.getD i []):=by
 by_cases h:i < M.length
 ·simp [List.getD,h]
 ·simp [List.getD,h,iL]
section
variable {rw rw':Nat→Row} {k v e e2:Nat} {q:List Nat} {M:Mat}
theorem TabI.len (h:TabI rw k v e e2 q M):q.length = M.length:=by rw [h.is.len];simp
theorem TabI.top (h:TabI rw k v e e2 q M):rw k = ⟨v,.tab e (zaI k q)⟩:=h.is.top
theorem TabI.row [zae] (h:TabI rw k v e e2 q M) {i:Nat} (hi:i < M.length):rw (sid k (q.getD i 0)) = ⟨1,.sli e2 1 false (iL (M.getD i []))⟩:=by
 rw [h.is.row i (by rw [h.len];exact hi),zc9]
theorem TabI.ne [zae] (h:TabI rw k v e e2 q M) {i j:Nat} (hi:i < M.length) (hj:j < M.length) (hij:i ≠ j):¬ sid k (q.getD i 0) = sid k (q.getD j 0):=fun e=>by
 have hi':i < q.length:=by rw [h.len];exact hi
 have hj':j < q.length:=by rw [h.len];exact hj
 have h1:q.getD i 0 = q[i]:=by simp [List.getD,hi']
 have h2:q.getD j 0 = q[j]:=by simp [List.getD,hj']
 have:=zeA e
 rw [h1,h2] at this
 exact hij ((List.getElem_inj (h₀:=hi') (h₁:=hj') h.nd).1 this)
theorem TabI.same [zae] (h:TabI rw k v e e2 q M) (h1:rw' k = rw k) (h2:∀ x,rw' (sid k x) = rw (sid k x)):TabI rw' k v e e2 q M :=
 ⟨⟨h1.trans h.top,h.is.len,fun i hi=>(h2 _).trans (h.is.row i hi)⟩,h.nd⟩
theorem TabI.to (h:TabI rw k v e e2 q M) {M':Mat} (he:M = M'):TabI rw k v e e2 q M':=he ▸ h
theorem TabI.set [zae] (h:TabI rw k v e e2 q M) {i:Nat} (hi:i < M.length) {r:List Int} (h1:rw' k = rw k) (h2:rw' (sid k (q.getD i 0)) = ⟨1,.sli e2 1 false (iL r)⟩)
 (h3:∀ x,¬ sid k x = sid k (q.getD i 0)→rw' (sid k x) = rw (sid k x)):TabI rw' k v e e2 q (M.set i r):=by
 refine ⟨⟨h1.trans h.top,by rw [h.len];simp,fun j hj=>?_⟩,h.nd⟩
 have hj':j < M.length:=by rw [← h.len];exact hj
 rw [zc9]
 by_cases e:j = i
 ·subst e
  have:(M.set j r).getD j [] = r:=by simp [List.getD,hi]
  rw [h2,this]
 ·have:(M.set i r).getD j [] = M.getD j []:=by simp [List.getD,List.getElem?_set_ne (Ne.symm e)]
  rw [h3 _ (h.ne hj' hi e),h.row hj',this]
theorem TabI.swap [zae] (h:TabI rw k v e e2 q M) {a b:Nat} (ha:a < M.length) (hb:b < M.length) (h1:rw' k = ⟨v,.tab e (zaI k ((q.set a (q.getD b 0)).set b (q.getD a 0)))⟩) (h2:∀ x,rw' (sid k x) = rw (sid k x)) :
 TabI rw' k v e e2 ((q.set a (q.getD b 0)).set b (q.getD a 0)) ((M.set a (M.getD b [])).set b (M.getD a []))∧((q.set a (q.getD b 0)).set b (q.getD a 0)).Perm q:=by
 have ha':a < q.length:=by rw [h.len];exact ha
 have hb':b < q.length:=by rw [h.len];exact hb
 have e1:q.getD a 0 = q[a]:=by simp [List.getD,ha']
 have e2':q.getD b 0 = q[b]:=by simp [List.getD,hb']
 have hp:((q.set a (q.getD b 0)).set b (q.getD a 0)).Perm q:=by rw [e1,e2'];exact List.set_set_perm ha' hb'
 refine ⟨⟨⟨h1,by simp [h.len],fun j hj=>?_⟩,hp.nodup_iff.2 h.nd⟩,hp⟩
 have hj':j < M.length:=by simpa [h.len] using hj
 have hjq:j < q.length:=by rw [h.len];exact hj'
 rw [zc9,h2]
 by_cases eb:j = b
 ·subst eb
  have q1:((q.set a (q.getD j 0)).set j (q.getD a 0)).getD j 0 = q.getD a 0:=by simp [List.getD,hjq]
  have q2:((M.set a (M.getD j [])).set j (M.getD a [])).getD j [] = M.getD a []:=by simp [List.getD,hj']
  rw [q1,q2];exact h.row ha
 ·by_cases ea:j = a
  ·subst ea
   have q1:((q.set j (q.getD b 0)).set b (q.getD j 0)).getD j 0 = q.getD b 0:=by
    simp only [List.getD]
    rw [List.getElem?_set_ne (Ne.symm eb),List.getElem?_set_self hjq];rfl
   have q2:((M.set j (M.getD b [])).set b (M.getD j [])).getD j [] = M.getD b []:=by
    simp only [List.getD]
    rw [List.getElem?_set_ne (Ne.symm eb),List.getElem?_set_self hj'];rfl
   rw [q1,q2];exact h.row hb
  ·have q1:((q.set a (q.getD b 0)).set b (q.getD a 0)).getD j 0 = q.getD j 0:=by
    simp only [List.getD]
    rw [List.getElem?_set_ne (Ne.symm eb),List.getElem?_set_ne (Ne.symm ea)]
   have q2:((M.set a (M.getD b [])).set b (M.getD a [])).getD j [] = M.getD j []:=by
    simp only [List.getD]
    rw [List.getElem?_set_ne (Ne.symm eb),List.getElem?_set_ne (Ne.symm ea)]
   rw [q1,q2];exact h.row hj'
theorem zFm [zae] (M:Mat):zlh (M.map iL):=fun i _=>by rw [zc9];exact za9 _
theorem zK1 [zae] (e e2:Nat) (M:Mat):TabI (inT e e2 (M.map iL)) 1000000 1 e e2 (List.range M.length) M:=by
 refine ⟨?_,List.nodup_range⟩
 have:=@zJI e e2 (M.map iL)
 rw [List.length_map] at this
 exact this
end
theorem AT.goI [zae] {P:Program} {T:Tab} {f:FuncId} {fn:Func} {c:Code} {rs:List ResultVar} {args:List PV} {e e2:Nat} {M M':Mat} {res:TR} (hT:T.Ok P) (hm:P.follows .mixedOrders = true) (hf:P.funcs[f]? = some fn) (hname:(fn.name == "runtime.NumGoroutine") = false)
 (hb:fn.body = some c) (hr:fn.results.toList = rs) (hfit:(fits fn.ntmps c && decide (args.length ≤ fn.ntmps) && decide (fn.results.toList.length ≤ 4)) = true) (hlen:M'.length = M.length)
 (h:M.length ≤ 9223372036854775807→∀ s:St,(∀ i,s.sl i = args.getD i .junk)→(∀ j,j < 1000000→s.rw j = ⟨0,.dead⟩)→TabI s.rw 1000000 1 e e2 (List.range M.length) M→cwp P T c (zKB T rs e e2 M.length (M'.map iL) res) s):AT P f args e e2 (M.map iL) (M'.map iL) res:=by
 subst hr
 refine AT.of hT hm hf hname hb hfit (zFm M) (zFm M') (by simpa using hlen) fun h1 _=>?_
 have:=h (by simpa using h1) (St.initT args e e2 (M.map iL)) (fun _=>rfl) (fun j hj=>zFh hj) (zK1 e e2 M)
 have e9:(M.map iL).length = M.length:=List.length_map _
 rwa [← e9] at this
theorem zly {rw:Nat→Row} {e e2 n:Nat} {q:List Nat} {M:Mat} (h:TabI rw 1000000 1 e e2 q M) (hq:q.Perm (List.range n)):zv0 rw e e2 n (M.map iL):=⟨q,h.is,hq⟩
structure TabP (rw:Nat→Row) (k v e e2 n i:Nat) (M:Mat):Prop where
 top:rw k = ⟨v,.tab e (zjr k n i)⟩
 len:M.length = i
 row:∀ j,j < i→rw (sid k j) = ⟨1,.sli e2 1 false (iL (M.getD j []))⟩
 rest:∀ j,i ≤ j→rw (sid k j) = ⟨0,.dead⟩
section
variable {s:St} {rw rw':Nat→Row} {k v e e2 n i d vd:Nat} {M:Mat} {r:List Int}
theorem TabP.init [zae] (e2:Nat) (hk:s.rw k = ⟨v,.sli e 1 false (List.replicate n (.v (.slice none 0 0)))⟩) (hd:∀ j,s.rw (sid k j) = ⟨0,.dead⟩) :
 ∃ s',Wk s s'∧TabP s'.rw k v e e2 n 0 []∧s'.sl = s.sl∧∀ j,(j % 1000 == k % 1000) = false→s'.rw j = s.rw j:=by
 refine ⟨_,Wk.tab hk (zxC n),⟨?_,rfl,fun j hj=>absurd hj (by omega),fun j _=>?_⟩,rfl,fun j hj=>?_⟩
 ·rw [zaF,zAV]
 ·rw [zas _ _ _ _ (ze0 k j)];exact hd j
 ·have hj:=beq_eq_false_iff_ne.1 hj
  rw [zas _ _ _ _ (fun e=>hj (by rw [e]))]
theorem zlz {M:Mat} {r:List Int} {j:Nat}:(M ++ [r]).getD j [] = if j < M.length then M.getD j [] else if j = M.length then r else []:=by
 by_cases h1:j < M.length
 ·rw [if_pos h1];simp [List.getD,List.getElem?_append_left h1]
 ·rw [if_neg h1]
  by_cases h2:j = M.length
  ·rw [if_pos h2];subst h2;simp [List.getD]
  ·rw [if_neg h2];simp [List.getD,List.getElem?_append_right (by omega:M.length ≤ j)];rw [List.getElem?_eq_none (by simp;omega)];rfl
theorem TabP.push [zae] (hk:s.rw k = ⟨v,.tab e (spl (zjr k n i) i [.own d vd])⟩) (hl:M.length = i) (hrow:∀ j,j < i→s.rw (sid k j) = ⟨1,.sli e2 1 false (iL (M.getD j []))⟩) (hrest:∀ j,i ≤ j→s.rw (sid k j) = ⟨0,.dead⟩)
 (hd:s.rw d = ⟨vd,.sli e2 1 false (iL r)⟩) (hdl:d < lent) (hdk:(d % 1000 == k % 1000) = false) (hi:i < n) :
 ∃ s',Wk s s'∧TabP s'.rw k v e e2 n (i + 1) (M ++ [r])∧s'.sl = s.sl∧∀ j,(j % 1000 == k % 1000) = false→(j == d) = false→s'.rw j = s.rw j:=by
 have hdk':=beq_eq_false_iff_ne.1 hdk
 have ndk:d ≠ k:=fun e=>hdk' (by rw [e])
 have nds:∀ j,d ≠ sid k j:=fun j e=>hdk' (by rw [e,zdg])
 refine ⟨_,Wk.ren (k':=sid k i) (cs':=zjr k n (i + 1)) hd hk (hrest i (Nat.le_refl i)) hdl (zC9 hi),⟨?_,by simp [hl],fun j hj=>?_,fun j hj=>?_⟩,rfl,fun j hj hj2=>?_⟩
 ·rw [zaF]
 ·rw [zas _ _ _ _ (ze0 k j),zlz,hl]
  by_cases e1:j = i
  ·subst e1
   rw [zaF,if_neg (by omega),if_pos rfl]
  ·rw [zas _ _ _ _ (fun h=>e1 (zeA h)),zas _ _ _ _ (Ne.symm (nds j)),if_pos (by omega)]
   exact hrow j (by omega)
 ·rw [zas _ _ _ _ (ze0 k j),zas _ _ _ _ (fun h=>by have:=zeA h;omega),zas _ _ _ _ (Ne.symm (nds j))]
  exact hrest j (by omega)
 ·have hj:=beq_eq_false_iff_ne.1 hj
  have hj2:=beq_eq_false_iff_ne.1 hj2
  rw [zas _ _ _ _ (fun e=>hj (by rw [e])),zas _ _ _ _ (fun e=>hj (by rw [e,zdg])),zas _ _ _ _ hj2]
theorem TabP.set (h:TabP rw k v e e2 n i M) {j:Nat} (hj:j < i) (h1:rw' k = rw k) (h2:rw' (sid k j) = ⟨1,.sli e2 1 false (iL r)⟩) (h3:∀ x,¬ x = j→rw' (sid k x) = rw (sid k x)):TabP rw' k v e e2 n i (M.set j r):=by
 refine ⟨h1.trans h.top,by simp [h.len],fun x hx=>?_,fun x hx=>(h3 x (by omega)).trans (h.rest x hx)⟩
 by_cases e:x = j
 ·subst e
  have:(M.set x r).getD x [] = r:=by simp [List.getD,h.len,hj]
  rw [h2,this]
 ·have:(M.set j r).getD x [] = M.getD x []:=by simp [List.getD,List.getElem?_set_ne (Ne.symm e)]
  rw [h3 x e,h.row x hx,this]
theorem TabP.same (h:TabP rw k v e e2 n i M) (h1:rw' k = rw k) (h2:∀ x,rw' (sid k x) = rw (sid k x)):TabP rw' k v e e2 n i M :=
 ⟨h1.trans h.top,h.len,fun j hj=>(h2 j).trans (h.row j hj),fun j hj=>(h2 j).trans (h.rest j hj)⟩
theorem TabP.done [zae] (h:TabP rw k v e e2 n n M):TabI rw k v e e2 (List.range n) M:=by
 refine ⟨⟨by rw [h.top,zC8],by simp [h.len],fun j hj=>?_⟩,List.nodup_range⟩
 have hj:j < n:=by simpa using hj
 have e1:(List.range n).getD j 0 = j:=by simp [List.getD,hj]
 rw [e1,zc9];exact h.row j hj
theorem zlA [zae] {T:Tab} {Kp:PV→Prop} (k n i:Nat) {t:TypeId} (h0:(T t).k.agg = false) (h1:0 < (T t).size):ldK T t .asis (zjr k n (i + 1)) i Kp = (i < n∧Kp (.own (sid k i) 1)):=by
 have:=zfo (T:=T) (Kp:=Kp) (fun j=>if j < i + 1 then PV.own (sid k j) 1 else .v (.slice none 0 0)) 0 (List.range n) (t:=t) (m:=.asis) i (fun j=>if j < i + 1 then PV.own (sid k j) 1 else .v (.slice none 0 0)) (fun _=>rfl) h0 h1
 refine (show ldK T t .asis (zjr k n (i + 1)) i Kp = _ from this).trans ?_
 rw [List.length_range]
 refine propext ⟨fun ⟨a,b⟩=>⟨a,?_⟩,fun ⟨a,b⟩=>⟨a,?_⟩⟩
 ·have e1:(List.range n).getD i 0 = i:=by simp [List.getD,a]
  rw [e1] at b;simpa using b
 ·have e1:(List.range n).getD i 0 = i:=by simp [List.getD,a]
  rw [e1];simpa using b
theorem zr1 [zae] {q:List Nat} (h:TabI rw k v e e2 q M) (hk:k < 1000) (hq:∀ j ∈ q,j < 998):zry rw (.own k v) (.tb e e2 (M.map iL)) List.Nodup:=by
 have hkl:k < lent:=by unfold lent;omega
 show zmu rw (.own k v) (.tb e e2 (M.map iL)) List.Nodup
 unfold zmu
 simp only [h.top]
 refine ⟨hkl,trivial,trivial,zr4 q (M.map iL) _ (by rw [List.length_map,h.len]) (fun i a b=>?_) ?_⟩
 ·have hm:i < M.length:=by simpa using b
  have hr:=h.row hm
  have e1:q.getD i 0 = q[i]:=by simp [List.getD,a]
  have e3:M.getD i [] = M[i]:=by simp [List.getD,hm]
  rw [e1,e3] at hr
  refine ⟨zoU hk (hq _ (List.getElem_mem a)),?_⟩
  rw [hr,List.getElem_map]
 ·refine List.nodup_cons.2 ⟨fun hm=>?_,?_⟩
  ·obtain ⟨j,_,hj⟩:=List.mem_map.1 hm
   rw [zbE] at hj;omega
  ·refine List.Pairwise.map _ (fun a b hab=>?_) h.nd
   rw [Ne,zgD];exact hab
theorem zlB [zae] {q:List Nat} (h:TabI rw k v e e2 q M) (hk:k < 1000) (hq:∀ j ∈ q,j < 998) {Kn:List Nat→Prop} (hK:Kn (k :: q.map (sid k))):zmu rw (.own k v) (.tb e e2 (M.map iL)) Kn:=by
 have hkl:k < lent:=by unfold lent;omega
 unfold zmu
 simp only [h.top]
 refine ⟨hkl,trivial,trivial,zr4 q (M.map iL) _ (by rw [List.length_map,h.len]) (fun i a b=>?_) hK⟩
 have hm:i < M.length:=by simpa using b
 have hr:=h.row hm
 have e1:q.getD i 0 = q[i]:=by simp [List.getD,a]
 have e3:M.getD i [] = M[i]:=by simp [List.getD,hm]
 rw [e1,e3] at hr
 refine ⟨zoU hk (hq _ (List.getElem_mem a)),?_⟩
 rw [hr,List.getElem_map]
end
section
variable {Q:AX→St→Prop} {s:St} {k v e e2 n i d vd:Nat} {M:Mat} {r:List Int}
theorem zwh [zae] {α:Type} (hk:s.rw k = ⟨v,.sli e 1 false (List.replicate n (.v (.slice none 0 0)))⟩) (hd:∀ j,s.rw (sid k j) = ⟨0,.dead⟩) (I:α→St→Prop) (μ:α→Nat) (x0:α) {b:(AX→St→Prop)→St→Prop} {u:Dm b} {w:Dm Q}
 (h0:∀ s',TabP s'.rw k v e e2 n 0 []→s'.sl = s.sl→(∀ j,(j % 1000 == k % 1000) = false→s'.rw j = s.rw j)→I x0 s') (h:∀ x s1,I x s1→b (AX.seq (zmt I μ (μ x)) Q) s1):zrA (kk b u) (kk Q w) s:=by
 obtain ⟨s',hw,ht,hsl,ho⟩:=TabP.init e2 hk hd
 exact ⟨α,I,μ,⟨x0,s',hw,h0 s' ht hsl ho⟩,h⟩
theorem zr2 [zae] {α:Type} (hk:s.rw k = ⟨v,.tab e (spl (zjr k n i) i [.own d vd])⟩) (hl:M.length = i) (hrow:∀ j,j < i→s.rw (sid k j) = ⟨1,.sli e2 1 false (iL (M.getD j []))⟩) (hrest:∀ j,i ≤ j→s.rw (sid k j) = ⟨0,.dead⟩)
 (hd:s.rw d = ⟨vd,.sli e2 1 false (iL r)⟩) (hdl:d < lent) (hdk:(d % 1000 == k % 1000) = false) (hi:i < n) (I:α→St→Prop) (μ:α→Nat) (x0:α) {b:(AX→St→Prop)→St→Prop} {u:Dm b} {w:Dm Q}
 (h0:∀ s',TabP s'.rw k v e e2 n (i + 1) (M ++ [r])→s'.sl = s.sl→(∀ j,(j % 1000 == k % 1000) = false→(j == d) = false→s'.rw j = s.rw j)→I x0 s') (h:∀ x s1,I x s1→b (AX.seq (zmt I μ (μ x)) Q) s1):zrA (kk b u) (kk Q w) s:=by
 obtain ⟨s',hw,ht,hsl,ho⟩:=TabP.push hk hl hrow hrest hd hdl hdk hi
 exact ⟨α,I,μ,⟨x0,s',hw,h0 s' ht hsl ho⟩,h⟩
theorem zr3 [zae] {M:Mat} {r:List Int} {i:Nat} (h:M.length = i):(M ++ [r]).getD i [] = r:=by rw [zlz,if_neg (by omega),if_pos h.symm]
theorem zwi {M:Mat} {r r':List Int} {i:Nat} (h:M.length = i):(M ++ [r]).set i r' = M ++ [r']:=by
 subst h;simp
end
section
variable {s:St}
theorem Wk.untab [zae] {k v e:Nat} {c:List PV} (hk:s.rw k = ⟨v,.tab e c⟩) (hc:zbM c):Wk s (s.row k ⟨v,.sli e 1 false c⟩):=by
 intro G a w ⟨E,hs⟩
 have hR:E.R k = ⟨v,.tab e c⟩:=by rw [hs.rw];exact hk
 have ht:OneTurn E w w k ⟨v,.sli e 1 false c⟩ (E.rm k) (E.rv k) :=
  ⟨fun _ _ _=>rfl,fun b hb _=>.inr ⟨hb,by rw [hR];rfl,fun _=>by rw [hR];rfl⟩,by rw [hR];exact Nat.le_refl _,
   fun _ _=>⟨by rw [hR];rfl,rfl⟩,fun _ _=>⟨by rw [hR];rfl,rfl⟩,fun _=>by have:=hs.wok.pos k (by rw [hR];rfl);rw [hR] at this;exact this,Nat.le_refl _,rfl,rfl,⟨rfl,fun _=>by first | exact Nat.le_refl _ | exact Nat.le_succ _⟩⟩
 have hturn:=ht.turn (fz:=[]) hs.wok
 have hrows:=ht.rows (fz:=[]) hs.wok (fun j hj=>by cases hj) (fun hl=>by
  have hrow:=hs.wok.rows k
  unfold zav at hrow ⊢
  rw [hR] at hrow
  simp only [Env.turn,zaf]
  rcases hrow with h | ⟨b,n,cap,vs,rest,h1,h2,h3,h4,h5,h6,h7,h8,h9⟩
  ·exact .inl h
  ·exact .inr ⟨b,n,cap,vs,rest,h1,h2,h3,h4,by omega,h6,h7,by omega,zc7 hc h9⟩)
 have:=hturn.sim hs hrows
 refine ⟨E.turn [] k ⟨v,.sli e 1 false c⟩ (E.rm k) (E.rv k),?_⟩
 have e:({ s with rw:=(E.turn [] k ⟨v,.sli e 1 false c⟩ (E.rm k) (E.rv k)).R }:St) = s.row k ⟨v,.sli e 1 false c⟩:=by
  have hf:zhy E.R [] = E.R:=zfY E.R
  simp only [Env.turn,hf,hs.rw]
  rfl
 rw [e] at this
 exact this
structure TabG (rw:Nat→Row) (k v e e2 n:Nat) (M:Mat):Prop where
 top:rw k = ⟨v,.tab e (zaI k (List.range n))⟩
 len:M.length = n
 row:∀ j,j < n→rw (sid k j) = ⟨1,.sli e2 1 false (iL (M.getD j []))⟩
 rest:∀ j,n ≤ j→rw (sid k j) = ⟨0,.dead⟩
variable {rw rw':Nat→Row} {k v e e2 n d vd:Nat} {M:Mat} {r:List Int}
theorem TabG.same (h:TabG rw k v e e2 n M) (h1:rw' k = rw k) (h2:∀ x,rw' (sid k x) = rw (sid k x)):TabG rw' k v e e2 n M :=
 ⟨h1.trans h.top,h.len,fun j hj=>(h2 j).trans (h.row j hj),fun j hj=>(h2 j).trans (h.rest j hj)⟩
theorem TabG.done [zae] (h:TabG rw k v e e2 n M):TabI rw k v e e2 (List.range n) M:=by
 refine ⟨⟨h.top,by simp [h.len],fun j hj=>?_⟩,List.nodup_range⟩
 have hj:j < n:=by simpa using hj
 have e1:(List.range n).getD j 0 = j:=by simp [List.getD,hj]
 rw [e1,zc9];exact h.row j hj
theorem TabG.init [zae] (e2:Nat) (hk:s.rw k = ⟨v,.sli e 1 false []⟩) (hd:∀ j,s.rw (sid k j) = ⟨0,.dead⟩) :
 ∃ s',Wk s s'∧TabG s'.rw k v e e2 0 []∧s'.sl = s.sl∧∀ j,(j % 1000 == k % 1000) = false→s'.rw j = s.rw j:=by
 refine ⟨_,Wk.tab hk (fun p hp=>by cases hp),⟨?_,rfl,fun j hj=>absurd hj (by omega),fun j _=>?_⟩,rfl,fun j hj=>?_⟩
 ·rw [zaF];rfl
 ·rw [zas _ _ _ _ (ze0 k j)];exact hd j
 ·have hj:=beq_eq_false_iff_ne.1 hj
  rw [zas _ _ _ _ (fun e=>hj (by rw [e]))]
theorem TabG.push [zae] (hk:s.rw k = ⟨v,.tab e (zaI k (List.range n) ++ [.own d vd])⟩) (hl:M.length = n) (hrow:∀ j,j < n→s.rw (sid k j) = ⟨1,.sli e2 1 false (iL (M.getD j []))⟩) (hrest:∀ j,n ≤ j→s.rw (sid k j) = ⟨0,.dead⟩)
 (hd:s.rw d = ⟨vd,.tab e2 (iL r)⟩) (hdl:d < lent) (hdk:(d % 1000 == k % 1000) = false) :
 ∃ s',Wk s s'∧TabG s'.rw k v e e2 (n + 1) (M ++ [r])∧s'.sl = s.sl∧∀ j,(j % 1000 == k % 1000) = false→(j == d) = false→s'.rw j = s.rw j:=by
 have hdk':=beq_eq_false_iff_ne.1 hdk
 have ndk:d ≠ k:=fun e=>hdk' (by rw [e])
 have nds:∀ j,d ≠ sid k j:=fun j e=>hdk' (by rw [e,zdg])
 have w1:Wk s (s.row d ⟨vd,.sli e2 1 false (iL r)⟩):=Wk.untab hd (za9 r)
 have hcs:(zaI k (List.range (n + 1))).length = (zaI k (List.range n) ++ [PV.own d vd]).length∧∀ i (a:i < (zaI k (List.range n) ++ [PV.own d vd]).length) (b:i < (zaI k (List.range (n + 1))).length),
  (zaI k (List.range (n + 1)))[i] = (zaI k (List.range n) ++ [PV.own d vd])[i] ∨ ((zaI k (List.range n) ++ [PV.own d vd])[i] = .own d vd∧(zaI k (List.range (n + 1)))[i] = .own (sid k n) 1):=by
  refine ⟨by simp [zar],fun i a b=>?_⟩
  have hi:i < n + 1:=by simpa [zar] using b
  by_cases h:i < n
  ·refine .inl ?_
   rw [List.getElem_append_left (by simpa [zar] using h)]
   simp [zaI]
  ·have:i = n:=by omega
   subst this
   refine .inr ⟨?_,?_⟩
   ·rw [List.getElem_append_right (by simp [zar])];simp [zar]
   ·simp [zaI]
 have w2:=Wk.ren (s:=s.row d ⟨vd,.sli e2 1 false (iL r)⟩) (d:=d) (k:=k) (k':=sid k n) (v:=vd) (vk:=v) (e:=e2) (et:=e) (sz:=1) (c:=iL r) (cs:=zaI k (List.range n) ++ [.own d vd]) (cs':=zaI k (List.range (n + 1)))
  (zaF _ _ _) (by rw [zas _ _ _ _ (Ne.symm ndk)];exact hk) (by rw [zas _ _ _ _ (Ne.symm (nds n))];exact hrest n (Nat.le_refl n)) hdl hcs
 refine ⟨_,w1.trans w2,⟨?_,by simp [hl],fun j hj=>?_,fun j hj=>?_⟩,rfl,fun j hj hj2=>?_⟩
 ·rw [zaF]
 ·rw [zas _ _ _ _ (ze0 k j),zlz,hl]
  by_cases e1:j = n
  ·subst e1
   rw [zaF,if_neg (by omega),if_pos rfl]
  ·rw [zas _ _ _ _ (fun h=>e1 (zeA h)),zas _ _ _ _ (Ne.symm (nds j)),zas _ _ _ _ (Ne.symm (nds j)),if_pos (by omega)]
   exact hrow j (by omega)
 ·rw [zas _ _ _ _ (ze0 k j),zas _ _ _ _ (fun h=>by have:=zeA h;omega),zas _ _ _ _ (Ne.symm (nds j)),zas _ _ _ _ (Ne.symm (nds j))]
  exact hrest j (by omega)
 ·have hj:=beq_eq_false_iff_ne.1 hj
  have hj2:=beq_eq_false_iff_ne.1 hj2
  rw [zas _ _ _ _ (fun e=>hj (by rw [e])),zas _ _ _ _ (fun e=>hj (by rw [e,zdg])),zas _ _ _ _ hj2,zas _ _ _ _ hj2]
variable {Q:AX→St→Prop}
theorem zC7 [zae] {α:Type} (hk:s.rw k = ⟨v,.sli e 1 false []⟩) (hd:∀ j,s.rw (sid k j) = ⟨0,.dead⟩) (I:α→St→Prop) (μ:α→Nat) (x0:α) {b:(AX→St→Prop)→St→Prop} {u:Dm b} {w:Dm Q}
 (h0:∀ s',TabG s'.rw k v e e2 0 []→s'.sl = s.sl→(∀ j,(j % 1000 == k % 1000) = false→s'.rw j = s.rw j)→I x0 s') (h:∀ x s1,I x s1→b (AX.seq (zmt I μ (μ x)) Q) s1):zrA (kk b u) (kk Q w) s:=by
 obtain ⟨s',hw,ht,hsl,ho⟩:=TabG.init e2 hk hd
 exact ⟨α,I,μ,⟨x0,s',hw,h0 s' ht hsl ho⟩,h⟩
theorem zxA [zae] {α:Type} {I:α→St→Prop} {μ:α→Nat} {m:Nat} (hk:s.rw k = ⟨v,.tab e (zaI k (List.range n) ++ [.own d vd])⟩) (hl:M.length = n) (hrow:∀ j,j < n→s.rw (sid k j) = ⟨1,.sli e2 1 false (iL (M.getD j []))⟩) (hrest:∀ j,n ≤ j→s.rw (sid k j) = ⟨0,.dead⟩)
 (hd:s.rw d = ⟨vd,.tab e2 (iL r)⟩) (hdl:d < lent) (hdk:(d % 1000 == k % 1000) = false) (x':α)
 (h0:∀ s',TabG s'.rw k v e e2 (n + 1) (M ++ [r])→s'.sl = s.sl→(∀ j,(j % 1000 == k % 1000) = false→(j == d) = false→s'.rw j = s.rw j)→I x' s') (hm:μ x' < m):zmt I μ m s:=by
 obtain ⟨s',hw,ht,hsl,ho⟩:=TabG.push hk hl hrow hrest hd hdl hdk
 exact ⟨x',s',hw,h0 s' ht hsl ho,hm⟩
end
theorem zxB [zae] {s:St} {k v e e2 i:Nat} {p:List Nat} {rows:List (List PV)} (hn:p.Nodup) (h:i < p.length):(s.tabbed k v e e2 p rows).rw (sid k (p.getD i 0)) = ⟨1,.sli e2 1 false (rows.getD i [])⟩:=zhx hn h
theorem zlC [zae] {k d:Nat} {q:List Nat} (hq:q.Nodup) (hd:∀ j ∈ q,d ≠ sid k j) (hdk:d ≠ k):(k :: q.map (sid k) ++ [d]).Nodup:=by
 rw [List.cons_append,List.nodup_cons,List.nodup_append]
 refine ⟨fun h=>?_,List.Pairwise.map _ (fun a b hab=>by rw [Ne,zgD];exact hab) hq,List.nodup_cons.2 ⟨by simp,List.nodup_nil⟩,fun a ha b hb=>?_⟩
 ·rcases List.mem_append.1 h with h | h
  ·obtain ⟨j,_,hj⟩:=List.mem_map.1 h
   exact ze0 k j hj
  ·exact hdk (List.mem_singleton.1 h).symm
 ·obtain ⟨j,hj,rfl⟩:=List.mem_map.1 ha
  rw [List.mem_singleton.1 hb]
  exact (hd j hj).symm
section
variable {s:St} {rw rw':Nat→Row} {k v e e2 n d vd:Nat} {M:Mat} {r:List Int}
end
theorem AC.flat [zae] {P:Program} {f:FuncId} {args:List PV} {e e2:Nat} {rows:List (List PV)} (h:AC P f args (.tb e e2 rows)):AC P f args (.fr e 1 (rows.map fun r=>.sl false 1 r)):=by
 refine ⟨h.1,fun w vals hp hv=>(h.2 w vals hp hv).mono fun en w' ⟨v,lv,he,hx,hout,hn⟩=>?_⟩
 cases hout with
 | tbn=>exact ⟨_,_,he,hx,.nil,by simp [blk]⟩
 | @tb _ _ b n cap _ vs rest lvs hB hh hnn hc hm hl h1 h2 hvv hin =>
   refine ⟨_,[(.slice (some ⟨b,0,none⟩) n cap,some b)],he,hx,.fr hB hh (by omega) hc hm (by omega) ⟨by simp [h1,hnn],fun i a b'=>?_⟩,by simp [blk]⟩
   have hi:i < rows.length:=by simpa using a
   have h0:=hin i hi b' (by omega)
   simp only [List.getElem_map]
   have hbl:blk ((Value.slice (some ⟨b,0,none⟩) n cap,some b) :: lvs) = b :: blk lvs:=rfl
   have e1:blk [(Value.slice (some ⟨b,0,none⟩) n cap,some b)] = [b]:=rfl
   rw [e1]
   rw [hbl] at hn h0
   generalize hri:rows[i] = ri at *
   generalize hvi:vs[i] = vi at *
   generalize hli:lvs[i]'(by omega) = li at *
   cases h0 with
   | nil=>exact zd4 _ _ _ _ _
   | @fr _ _ b2 n2 cap2 _ vs2 rest2 hB2 hh2 hn2 hc2 hm2 hl2 hr2 =>
     have hb2:b2 ∈ blk lvs:=by
      simp only [blk,List.mem_filterMap]
      exact ⟨_,List.getElem_mem (by omega:i < lvs.length),by rw [hli]⟩
     have hne:b2 ≠ b:=fun e=>(List.nodup_cons.1 hn).1 (e ▸ hb2)
     have hB3:w.heap.size ≤ b2:=hB2
     refine .sl (fun j=>vs2.getD j undef) (hr2.1.trans hn2) hc2 hm2 (fun j hj=>⟨b2,0,rfl,?_,fun hL=>?_,?_⟩) (fun j hj=>?_)
     ·show max w.heap.size (if false = true then _ else 0) ≤ b2
      simp;exact hB3
     ·rcases hL with hL | hL
      ·have:b2 < w.heap.size:=hL
       omega
      ·exact hne (List.mem_singleton.1 hL)
     ·have hj':j < vs2.length:=by rw [← hr2.1];exact hj
      rw [Nat.zero_add,zaJ hh2 (by simp;omega)]
      simp [List.getElem_append_left hj',List.getD,hj']
     ·have hj':j < vs2.length:=by rw [← hr2.1];exact hj
      have e2':vs2.getD j undef = vs2[j]:=by simp [List.getD,hj']
      rw [e2']
      have h3:=hr2.2 j hj hj'
      have h4:Rep w' (Env.out w.heap.size [b]).bare.bare w.heap.size ri[j] vs2[j]:=by
       refine Rep.above (E:=(Env.out w.heap.size (b :: blk lvs)).bare) h3 (fun _=>rfl) (fun _=>rfl) rfl rfl fun x hx' hL hL'=>?_
       rcases hL' with hL' | hL'
       ·exact hL (.inl hL')
       ·exact hL (.inr (by rw [List.mem_singleton.1 hL'];exact List.mem_cons_self))
      refine h4.low ?_
      show max w.heap.size (if false = true then _ else 0) ≤ w.heap.size
      simp
end Go.Abs
