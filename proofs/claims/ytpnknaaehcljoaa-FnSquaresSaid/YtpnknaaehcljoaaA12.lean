/- DERIVED by an AI agent. -/
import Derived.Test.YtpnknaaehcljoaaA11
/- DERIVED by an AI agent. The rules in heaps. No program in sight. -/
namespace Go.Abs
theorem ai {a b:Prop} (h:a) (k:b):a∧b:=⟨h,k⟩
theorem gp0:type_of% (ai @zCq <| ai @zCr <| ai @zCs <| ai @zCt <| ai @zCu <| ai @zCv <| ai @zCw <| ai @zCx <| ai @zpV <| ai @zgk <| ai @zgl <| ai @ztP <| ai @zpW <| ai @zme <| ai @zpX <| @zpY):=ai @zCq <| ai @zCr <| ai @zCs <| ai @zCt <| ai @zCu <| ai @zCv <| ai @zCw <| ai @zCx <| ai @zpV <| ai @zgk <| ai @zgl <| ai @ztP <| ai @zpW <| ai @zme <| ai @zpX <| @zpY
theorem gp1:type_of% (ai @ztQ <| ai @zmf <| ai @zpZ <| ai @ztR <| ai @zp0 <| ai @zp1 <| ai @ztS <| ai @ze4 <| ai @zhJ <| ai @zp2 <| ai @zmg <| ai @zp3 <| ai @zmj <| ai @zmm <| ai @zjv <| @zjw):=ai @ztQ <| ai @zmf <| ai @zpZ <| ai @ztR <| ai @zp0 <| ai @zp1 <| ai @ztS <| ai @ze4 <| ai @zhJ <| ai @zp2 <| ai @zmg <| ai @zp3 <| ai @zmj <| ai @zmm <| ai @zjv <| @zjw
theorem gp2:type_of% (ai @zhL <| ai @zql <| ai @zey <| ai @zez <| ai @zdN <| ai @zc9 <| ai @zeA <| ai @zeB <| ai @zqm <| ai @zt8 <| ai @zyO <| ai @zhP <| ai @zqn <| ai @ze6 <| ai @zhQ <| @ze7):=ai @zhL <| ai @zql <| ai @zey <| ai @zez <| ai @zdN <| ai @zc9 <| ai @zeA <| ai @zeB <| ai @zqm <| ai @zt8 <| ai @zyO <| ai @zhP <| ai @zqn <| ai @ze6 <| ai @zhQ <| @ze7
theorem gp3:type_of% (ai @zmv <| ai @zhR <| ai @zgm <| ai @zgn <| ai @zt9 <| ai @zua <| ai @zub <| ai @zjE <| ai @zmy <| ai @zeC <| ai @zmz <| ai @zjS <| ai @zjM <| ai @zjO <| ai @zjN <| @zmA):=ai @zmv <| ai @zhR <| ai @zgm <| ai @zgn <| ai @zt9 <| ai @zua <| ai @zub <| ai @zjE <| ai @zmy <| ai @zeC <| ai @zmz <| ai @zjS <| ai @zjM <| ai @zjO <| ai @zjN <| @zmA
theorem gp4:type_of% (ai @zue <| ai @zeD <| ai @zmD <| ai @zqv <| ai @zmG <| ai @zri <| ai @znv <| ai @zrj <| ai @zki <| ai @zhV <| ai @zhW <| ai @zqx <| ai @zjL <| ai @zqy <| ai @zyS <| @zhX):=ai @zue <| ai @zeD <| ai @zmD <| ai @zqv <| ai @zmG <| ai @zri <| ai @znv <| ai @zrj <| ai @zki <| ai @zhV <| ai @zhW <| ai @zqx <| ai @zjL <| ai @zqy <| ai @zyS <| @zhX
theorem gp5:type_of% (ai @zqz <| ai @zfd <| ai @zmN <| ai @zfe <| ai @zmO <| ai @zhY <| ai @zgo <| ai @zgp <| ai @zmP <| ai @zuk <| ai @zmX <| ai @zmY <| ai @zqG <| ai @zmZ <| ai @zh4 <| @zh5):=ai @zqz <| ai @zfd <| ai @zmN <| ai @zfe <| ai @zmO <| ai @zhY <| ai @zgo <| ai @zgp <| ai @zmP <| ai @zuk <| ai @zmX <| ai @zmY <| ai @zqG <| ai @zmZ <| ai @zh4 <| @zh5
theorem gp6:type_of% (ai @zgq <| ai @zeE <| ai @zmK <| ai @zrC <| ai @znI <| ai @zrD <| ai @znK <| ai @znJ <| ai @zrE <| ai @zrA <| ai @znG <| ai @zrF <| ai @znN <| ai @znO <| ai @zkn <| @zvk):=ai @zgq <| ai @zeE <| ai @zmK <| ai @zrC <| ai @znI <| ai @zrD <| ai @znK <| ai @znJ <| ai @zrE <| ai @zrA <| ai @znG <| ai @zrF <| ai @znN <| ai @znO <| ai @zkn <| @zvk
theorem gp7:type_of% (ai @zrB <| ai @znH <| ai @zuq <| ai @zm0 <| ai @zur <| ai @zyX <| ai @zCF <| ai @zjV <| ai @zus <| ai @zgr <| ai @zqH <| ai @zgs <| ai @zqI <| ai @zjW <| ai @zh6 <| @zh7):=ai @zrB <| ai @znH <| ai @zuq <| ai @zm0 <| ai @zur <| ai @zyX <| ai @zCF <| ai @zjV <| ai @zus <| ai @zgr <| ai @zqH <| ai @zgs <| ai @zqI <| ai @zjW <| ai @zh6 <| @zh7
theorem gp8:type_of% (ai @zyY <| ai @zyZ <| ai @zy0 <| ai @zm1 <| ai @zm2 <| ai @zm5 <| ai @zqJ <| ai @zut <| ai @zy1 <| ai @zm4 <| ai @zh8 <| ai @zm6 <| ai @zqK <| ai @zuu <| ai @zgt <| @zm7):=ai @zyY <| ai @zyZ <| ai @zy0 <| ai @zm1 <| ai @zm2 <| ai @zm5 <| ai @zqJ <| ai @zut <| ai @zy1 <| ai @zm4 <| ai @zh8 <| ai @zm6 <| ai @zqK <| ai @zuu <| ai @zgt <| @zm7
theorem gp9:type_of% (ai @zqL <| ai @zy2 <| ai @zff <| ai @zqM <| ai @zuv <| @zxg):=ai @zqL <| ai @zy2 <| ai @zff <| ai @zqM <| ai @zuv <| @zxg
theorem gp:type_of% (ai @gp0 <| ai @gp1 <| ai @gp2 <| ai @gp3 <| ai @gp4 <| ai @gp5 <| ai @gp6 <| ai @gp7 <| ai @gp8 <| @gp9):=ai @gp0 <| ai @gp1 <| ai @gp2 <| ai @gp3 <| ai @gp4 <| ai @gp5 <| ai @gp6 <| ai @gp7 <| ai @gp8 <| @gp9
theorem gq0:type_of% (ai @zCp <| ai @zyC <| ai @ztL <| ai @ztM <| ai @zpT <| ai @zyD <| ai @ztN <| ai @ztO <| ai @zpU <| ai @zax <| ai @zaO <| ai @zg7 <| ai @zcD <| ai @zpP <| ai @zaz <| @zao):=ai @zCp <| ai @zyC <| ai @ztL <| ai @ztM <| ai @zpT <| ai @zyD <| ai @ztN <| ai @ztO <| ai @zpU <| ai @zax <| ai @zaO <| ai @zg7 <| ai @zcD <| ai @zpP <| ai @zaz <| @zao
theorem gq1:type_of% (ai @zeZ <| ai @ze0 <| ai @zkZ <| ai @zpQ <| ai @ztK <| ai @zpR <| ai @zk0 <| ai @ze1 <| ai @zpS <| ai @zyB <| ai @zk1 <| ai @zk2 <| ai @ze2 <| ai @ze3 <| ai @zg8 <| @zg9):=ai @zeZ <| ai @ze0 <| ai @zkZ <| ai @zpQ <| ai @ztK <| ai @zpR <| ai @zk0 <| ai @ze1 <| ai @zpS <| ai @zyB <| ai @zk1 <| ai @zk2 <| ai @ze2 <| ai @ze3 <| ai @zg8 <| @zg9
theorem gq2:type_of% (ai @zha <| ai @zju <| ai @zyE <| ai @zyF <| ai @zyG <| ai @zyH <| ai @zt2 <| ai @zmk <| ai @zp7 <| ai @zml <| ai @zyK <| ai @getElem?_zero <| ai @getElem?_succ <| ai @zmn <| ai @zuw <| @zux):=ai @zha <| ai @zju <| ai @zyE <| ai @zyF <| ai @zyG <| ai @zyH <| ai @zt2 <| ai @zmk <| ai @zp7 <| ai @zml <| ai @zyK <| ai @getElem?_zero <| ai @getElem?_succ <| ai @zmn <| ai @zuw <| @zux
theorem gq3:type_of% (ai @zuy <| ai @zuz <| ai @zuA <| ai @zuB <| ai @zy3 <| ai @zuC <| ai @zjX <| ai @zuD <| ai @zuE <| ai @zuF <| ai @zuG <| ai @zuH <| ai @zuI <| ai @zuJ <| ai @zuK <| @zh9):=ai @zuy <| ai @zuz <| ai @zuA <| ai @zuB <| ai @zy3 <| ai @zuC <| ai @zjX <| ai @zuD <| ai @zuE <| ai @zuF <| ai @zuG <| ai @zuH <| ai @zuI <| ai @zuJ <| ai @zuK <| @zh9
theorem gq4:type_of% (ai @zia <| ai @zib <| ai @zgu <| ai @zgv <| ai @zy4 <| ai @zy5 <| ai @zqN <| ai @zuL <| ai @zjY <| ai @zj0 <| ai @zjZ <| ai @zy6 <| ai @zuM <| ai @zy7 <| ai @zuN <| @zj1):=ai @zia <| ai @zib <| ai @zgu <| ai @zgv <| ai @zy4 <| ai @zy5 <| ai @zqN <| ai @zuL <| ai @zjY <| ai @zj0 <| ai @zjZ <| ai @zy6 <| ai @zuM <| ai @zy7 <| ai @zuN <| @zj1
theorem gq5:type_of% (ai @zj2 <| ai @zj3 <| ai @zCH <| ai @zCI <| ai @zy8 <| ai @zuP <| ai @zy9 <| ai @zm9 <| ai @zm8 <| ai @zCJ <| ai @zCK <| ai @zCL <| ai @zCM <| ai @zzb <| ai @zCN <| @zCO):=ai @zj2 <| ai @zj3 <| ai @zCH <| ai @zCI <| ai @zy8 <| ai @zuP <| ai @zy9 <| ai @zm9 <| ai @zm8 <| ai @zCJ <| ai @zCK <| ai @zCL <| ai @zCM <| ai @zzb <| ai @zCN <| @zCO
theorem gq6:type_of% (ai @zCP <| ai @zCQ <| ai @zuQ <| ai @List.drop_succ_cons.{0} <| ai @List.drop_zero.{0} <| ai @List.take_succ_cons.{0} <| ai @List.take_zero.{0} <| ai @zsn <| ai @zza <| ai @zqO <| ai @zqQ <| ai @zdO <| ai @zfg <| ai @zna <| ai @znb <| @zqR):=ai @zCP <| ai @zCQ <| ai @zuQ <| ai @List.drop_succ_cons.{0} <| ai @List.drop_zero.{0} <| ai @List.take_succ_cons.{0} <| ai @List.take_zero.{0} <| ai @zsn <| ai @zza <| ai @zqO <| ai @zqQ <| ai @zdO <| ai @zfg <| ai @zna <| ai @znb <| @zqR
theorem gq7:type_of% (ai @zqS <| ai @zid <| ai @znc <| ai @zj4 <| ai @znd <| ai @zj5 <| ai @zqT <| ai @zne <| ai @zqU <| ai @znf <| ai @zqV <| ai @zzc <| ai @zqW <| ai @zqX <| ai @ztD <| @ztC):=ai @zqS <| ai @zid <| ai @znc <| ai @zj4 <| ai @znd <| ai @zj5 <| ai @zqT <| ai @zne <| ai @zqU <| ai @znf <| ai @zqV <| ai @zzc <| ai @zqW <| ai @zqX <| ai @ztD <| @ztC
theorem gq8:type_of% (ai @ztF <| ai @ztE <| ai @zpN <| ai @zpM <| ai @zj6 <| ai @zj7 <| ai @zuV <| ai @zq4 <| ai @zq5 <| ai @znh <| ai @zni <| ai @zj9 <| ai @zka <| ai @znj <| ai @zze <| @zuW):=ai @ztF <| ai @ztE <| ai @zpN <| ai @zpM <| ai @zj6 <| ai @zj7 <| ai @zuV <| ai @zq4 <| ai @zq5 <| ai @znh <| ai @zni <| ai @zj9 <| ai @zka <| ai @znj <| ai @zze <| @zuW
theorem gq9:type_of% (ai @zuX <| ai @zq6 <| ai @zig <| ai @zih <| ai @zq8 <| ai @znm <| ai @znl <| ai @zkb <| ai @zkc <| ai @zkd <| ai @zke <| ai @zuY <| ai @zq7 <| ai @znk <| ai @zzf <| @zuZ):=ai @zuX <| ai @zq6 <| ai @zig <| ai @zih <| ai @zq8 <| ai @znm <| ai @znl <| ai @zkb <| ai @zkc <| ai @zkd <| ai @zke <| ai @zuY <| ai @zq7 <| ai @znk <| ai @zzf <| @zuZ
theorem zFd:type_of% (ai @znn <| ai @zq9 <| ai @zra <| ai @zrb <| ai @List.length_cons.{0} <| ai @List.length_nil.{0} <| ai @List.not_mem_nil.{0} <| ai @List.mem_cons.{0} <| ai @or_false <| ai @zno <| ai @zrc <| ai @zjG <| ai @zrd <| ai @zre <| ai @zkf <| @zkg):=ai @znn <| ai @zq9 <| ai @zra <| ai @zrb <| ai @List.length_cons.{0} <| ai @List.length_nil.{0} <| ai @List.not_mem_nil.{0} <| ai @List.mem_cons.{0} <| ai @or_false <| ai @zno <| ai @zrc <| ai @zjG <| ai @zrd <| ai @zre <| ai @zkf <| @zkg
theorem zFe:type_of% (ai @zu1 <| ai @zu2 <| ai @zu3 <| ai @zrf <| ai @zCT <| ai @zu9 <| ai @zkh <| ai @zcQ <| ai @zhg <| ai @zny <| ai @znz <| ai @znA <| ai @znB <| ai @znC <| ai @imm_ag <| @imm_tup):=ai @zu1 <| ai @zu2 <| ai @zu3 <| ai @zrf <| ai @zCT <| ai @zu9 <| ai @zkh <| ai @zcQ <| ai @zhg <| ai @zny <| ai @znz <| ai @znA <| ai @znB <| ai @znC <| ai @imm_ag <| @imm_tup
theorem zFf:type_of% (ai @zva <| ai @zrq <| ai @zvb <| ai @zrr <| ai @znD <| ai @zzg <| ai @zzh <| ai @zkl <| ai @zrs <| ai @zrt <| ai @zzi <| ai @zzj <| ai @zru <| ai @znE <| ai @zik <| @zrv):=ai @zva <| ai @zrq <| ai @zvb <| ai @zrr <| ai @znD <| ai @zzg <| ai @zzh <| ai @zkl <| ai @zrs <| ai @zrt <| ai @zzi <| ai @zzj <| ai @zru <| ai @znE <| ai @zik <| @zrv
theorem zFg:type_of% (ai @zvc <| ai @zvd <| ai @zrx <| ai @zry <| ai @zip <| ai @zio <| ai @ziq <| ai @zmw <| ai @zjF <| ai @zuf <| ai @zqt <| ai @zyP <| ai @zqo <| ai @zqq <| ai @zuh <| @zmF):=ai @zvc <| ai @zvd <| ai @zrx <| ai @zry <| ai @zip <| ai @zio <| ai @ziq <| ai @zmw <| ai @zjF <| ai @zuf <| ai @zqt <| ai @zyP <| ai @zqo <| ai @zqq <| ai @zuh <| @zmF
theorem zFh:type_of% (ai @zmE <| ai @zjD <| ai @zl6 <| ai @zl7 <| ai @zl8 <| ai @zl9 <| ai @zjr <| ai @zma <| ai @ztz <| ai @ztB <| ai @zmc <| ai @zpL <| ai @zjs <| ai @zmb <| ai @ztA <| @zyt):=ai @zmE <| ai @zjD <| ai @zl6 <| ai @zl7 <| ai @zl8 <| ai @zl9 <| ai @zjr <| ai @zma <| ai @ztz <| ai @ztB <| ai @zmc <| ai @zpL <| ai @zjs <| ai @zmb <| ai @ztA <| @zyt
theorem zFi:type_of% (ai @zyu <| ai @zyv <| ai @zyw <| ai @zyx <| ai @zyy <| ai @ztG <| ai @zyz <| ai @zys <| ai @zyA <| ai @ztH <| ai @zgj <| ai @zdM <| ai @ztJ <| ai @zpO <| ai @zjt <| @zmd):=ai @zyu <| ai @zyv <| ai @zyw <| ai @zyx <| ai @zyy <| ai @ztG <| ai @zyz <| ai @zys <| ai @zyA <| ai @ztH <| ai @zgj <| ai @zdM <| ai @ztJ <| ai @zpO <| ai @zjt <| @zmd
theorem zFj:type_of% (ai @List.map_nil.{0,0} <| ai @List.map_cons.{0,0} <| ai @List.append_nil.{0} <| ai @List.nil_append.{0} <| ai @List.cons_append.{0} <| ai @List.getElem?_cons_zero.{0} <| ai @List.getElem?_cons_succ.{0} <| ai @ne_eq.{1} <| ai @not_false_eq_true <| ai @not_true_eq_false <| ai @true_and <| ai @and_true <| ai @false_and <| ai @and_false <| ai @and_self <| @true_implies):=ai @List.map_nil.{0,0} <| ai @List.map_cons.{0,0} <| ai @List.append_nil.{0} <| ai @List.nil_append.{0} <| ai @List.cons_append.{0} <| ai @List.getElem?_cons_zero.{0} <| ai @List.getElem?_cons_succ.{0} <| ai @ne_eq.{1} <| ai @not_false_eq_true <| ai @not_true_eq_false <| ai @true_and <| ai @and_true <| ai @false_and <| ai @and_false <| ai @and_self <| @true_implies
theorem zFk:type_of% (ai @Bool.not_true <| ai @Bool.not_false <| ai @eq_self.{1} <| ai @Bool.true_eq_false <| ai @Bool.false_eq_true <| ai @false_implies <| ai @implies_true.{0} <| ai @implies_true.{1} <| ai @zu8 <| ai @Int.le_refl <| ai @Nat.le_refl <| ai @Int.toNat_natCast <| ai @Int.natCast_nonneg <| ai @Int.ofNat_lt <| ai @Int.ofNat_le <| @PV.v.injEq):=ai @Bool.not_true <| ai @Bool.not_false <| ai @eq_self.{1} <| ai @Bool.true_eq_false <| ai @Bool.false_eq_true <| ai @false_implies <| ai @implies_true.{0} <| ai @implies_true.{1} <| ai @zu8 <| ai @Int.le_refl <| ai @Nat.le_refl <| ai @Int.toNat_natCast <| ai @Int.natCast_nonneg <| ai @Int.ofNat_lt <| ai @Int.ofNat_le <| @PV.v.injEq
theorem zFl:type_of% (ai @Value.bool.injEq <| ai @Value.int.injEq <| ai @Value.string.injEq <| ai @List.nodup_nil.{0} <| ai @zns <| ai @znt <| ai @beq_self_eq_true.{0} <| ai @decide_eq_true_eq <| ai @decide_eq_false_iff_not <| ai @zqw <| ai @zmH <| ai @zhU <| ai @zjJ <| ai @zhT <| ai @zmI <| @zjK):=ai @Value.bool.injEq <| ai @Value.int.injEq <| ai @Value.string.injEq <| ai @List.nodup_nil.{0} <| ai @zns <| ai @znt <| ai @beq_self_eq_true.{0} <| ai @decide_eq_true_eq <| ai @decide_eq_false_iff_not <| ai @zqw <| ai @zmH <| ai @zhU <| ai @zjJ <| ai @zhT <| ai @zmI <| @zjK
theorem zFm:type_of% (ai @zmJ <| ai @zyR <| ai @zuj <| ai @zmL <| ai @zmM <| ai @zqr <| ai @zmx <| ai @zhj <| ai @zhk <| ai @zrz <| ai @zxn <| ai @zxo <| ai @zvg <| ai @zvh <| ai @zk9 <| @zla):=ai @zmJ <| ai @zyR <| ai @zuj <| ai @zmL <| ai @zmM <| ai @zqr <| ai @zmx <| ai @zhj <| ai @zhk <| ai @zrz <| ai @zxn <| ai @zxo <| ai @zvg <| ai @zvh <| ai @zk9 <| @zla
theorem zFn:type_of% (ai @zrk <| ai @zrl <| ai @znw <| ai @zrm <| ai @zrn <| ai @zro <| ai @zkk <| ai @zkj <| ai @znx <| ai @zmB <| ai @zjH <| ai @zmC <| ai @zjI <| ai @if_true.{1} <| ai @if_false.{1} <| @Nat.zero_le):=ai @zrk <| ai @zrl <| ai @znw <| ai @zrm <| ai @zrn <| ai @zro <| ai @zkk <| ai @zkj <| ai @znx <| ai @zmB <| ai @zjH <| ai @zmC <| ai @zjI <| ai @if_true.{1} <| ai @if_false.{1} <| @Nat.zero_le
theorem zFo:type_of% (ai @Bool.true_and <| ai @Bool.and_true <| ai @Bool.and_self <| ai @zk3 <| ai @zk4 <| ai @zk5 <| ai @zhb <| ai @zqu <| ai @zhc <| ai @zhd <| ai @zhe <| ai @zhf <| ai @ze8 <| ai @ze9 <| ai @zfa <| @zfb):=ai @Bool.true_and <| ai @Bool.and_true <| ai @Bool.and_self <| ai @zk3 <| ai @zk4 <| ai @zk5 <| ai @zhb <| ai @zqu <| ai @zhc <| ai @zhd <| ai @zhe <| ai @zhf <| ai @ze8 <| ai @ze9 <| ai @zfa <| @zfb
theorem zFp:type_of% (ai @zmh <| ai @zCy <| ai @zCz <| ai @zp8 <| ai @zyL <| ai @zt3 <| ai @zmo <| ai @zp9 <| ai @zqa <| ai @zmp <| ai @zqb <| ai @zqc <| ai @zt4 <| ai @zqd <| ai @zyM <| @zt5):=ai @zmh <| ai @zCy <| ai @zCz <| ai @zp8 <| ai @zyL <| ai @zt3 <| ai @zmo <| ai @zp9 <| ai @zqa <| ai @zmp <| ai @zqb <| ai @zqc <| ai @zt4 <| ai @zqd <| ai @zyM <| @zt5
theorem zFq:type_of% (ai @zmq <| ai @zqe <| ai @zqf <| ai @zqg <| ai @zqh <| ai @zmr <| ai @zyN <| ai @zt6 <| ai @zms <| ai @zmt <| ai @zqi <| ai @zjx <| ai @zjy <| ai @zjz <| ai @zt7 <| @zqj):=ai @zmq <| ai @zqe <| ai @zqf <| ai @zqg <| ai @zqh <| ai @zmr <| ai @zyN <| ai @zt6 <| ai @zms <| ai @zmt <| ai @zqi <| ai @zjx <| ai @zjy <| ai @zjz <| ai @zt7 <| @zqj
theorem zFr:type_of% (ai @zqk <| ai @zjA <| ai @zjB <| ai @zjC <| ai @zyI <| ai @ztU <| ai @ztV <| ai @zp4 <| ai @zp5 <| ai @zmi <| ai @ztW <| ai @zp6 <| ai @ztX <| ai @zyJ <| ai @ztY <| @ztZ):=ai @zqk <| ai @zjA <| ai @zjB <| ai @zjC <| ai @zyI <| ai @ztU <| ai @ztV <| ai @zp4 <| ai @zp5 <| ai @zmi <| ai @ztW <| ai @zp6 <| ai @ztX <| ai @zyJ <| ai @ztY <| @ztZ
theorem zFs:type_of% (ai @zt0 <| ai @zt1 <| ai @Bool.or_false <| ai @Bool.false_or <| ai @Bool.or_self <| ai @Bool.or_true <| ai @Bool.true_or <| ai @Bool.false_and <| ai @Bool.and_false <| ai @zqY <| ai @zuR <| ai @zqZ <| ai @zq0 <| ai @zq1 <| ai @zuS <| @zj8):=ai @zt0 <| ai @zt1 <| ai @Bool.or_false <| ai @Bool.false_or <| ai @Bool.or_self <| ai @Bool.or_true <| ai @Bool.true_or <| ai @Bool.false_and <| ai @Bool.and_false <| ai @zqY <| ai @zuR <| ai @zqZ <| ai @zq0 <| ai @zq1 <| ai @zuS <| @zj8
theorem zFt:type_of% (ai @zuT <| ai @zzd <| ai @zq3 <| ai @zie <| ai @zng <| ai @znp <| ai @znq <| ai @znr <| ai @zrg <| ai @zu4 <| ai @zu5 <| ai @zu6 <| ai @zu7 <| ai @zrh <| ai @znF <| @zrw):=ai @zuT <| ai @zzd <| ai @zq3 <| ai @zie <| ai @zng <| ai @znp <| ai @znq <| ai @znr <| ai @zrg <| ai @zu4 <| ai @zu5 <| ai @zu6 <| ai @zu7 <| ai @zrh <| ai @znF <| @zrw
theorem zFu:type_of% (ai @zim <| ai @zin <| ai @zyU <| ai @zul <| ai @zum <| ai @zmQ <| ai @zqA <| ai @zqC <| ai @zjQ <| ai @zjP <| ai @zjR <| ai @zh0 <| ai @zhZ <| ai @zqD <| ai @zun <| @zjT):=ai @zim <| ai @zin <| ai @zyU <| ai @zul <| ai @zum <| ai @zmQ <| ai @zqA <| ai @zqC <| ai @zjQ <| ai @zjP <| ai @zjR <| ai @zh0 <| ai @zhZ <| ai @zqD <| ai @zun <| @zjT
theorem zFv:type_of% (ai @zqE <| ai @zmR <| ai @zmS <| ai @zyW <| ai @zup <| ai @zqF <| ai @zh1 <| ai @zh2 <| ai @zh3 <| ai @zmT <| ai @zmV <| ai @zmW <| ai @zjU <| ai @zbB <| ai @zDz <| @zxp):=ai @zqE <| ai @zmR <| ai @zmS <| ai @zyW <| ai @zup <| ai @zqF <| ai @zh1 <| ai @zh2 <| ai @zh3 <| ai @zmT <| ai @zmV <| ai @zmW <| ai @zjU <| ai @zbB <| ai @zDz <| @zxp
theorem zFw:type_of% (ai @zal <| ai @zfi <| ai @zd9 <| ai @zfj <| ai @znL <| ai @zkm <| ai @zvi <| ai @znM <| ai @zhl <| ai @zhm <| ai @zlb <| ai @zdo <| ai @zfk <| ai @zcE <| ai @zdQ <| @zda):=ai @zal <| ai @zfi <| ai @zd9 <| ai @zfj <| ai @znL <| ai @zkm <| ai @zvi <| ai @znM <| ai @zhl <| ai @zhm <| ai @zlb <| ai @zdo <| ai @zfk <| ai @zcE <| ai @zdQ <| @zda
theorem zFx:type_of% (ai @List.length_set.{0} <| ai @List.length_range <| ai @zfl <| ai @zfm <| ai @zhO <| ai @zmu <| ai @zit <| @zvl):=ai @List.length_set.{0} <| ai @List.length_range <| ai @zfl <| ai @zfm <| ai @zhO <| ai @zmu <| ai @zit <| @zvl
theorem gq:type_of% (ai @gq0 <| ai @gq1 <| ai @gq2 <| ai @gq3 <| ai @gq4 <| ai @gq5 <| ai @gq6 <| ai @gq7 <| ai @gq8 <| ai @gq9 <| ai @zFd <| ai @zFe <| ai @zFf <| ai @zFg <| ai @zFh <| ai @zFi <| ai @zFj <| ai @zFk <| ai @zFl <| ai @zFm <| ai @zFn <| ai @zFo <| ai @zFp <| ai @zFq <| ai @zFr <| ai @zFs <| ai @zFt <| ai @zFu <| ai @zFv <| ai @zFw <| @zFx):=ai @gq0 <| ai @gq1 <| ai @gq2 <| ai @gq3 <| ai @gq4 <| ai @gq5 <| ai @gq6 <| ai @gq7 <| ai @gq8 <| ai @gq9 <| ai @zFd <| ai @zFe <| ai @zFf <| ai @zFg <| ai @zFh <| ai @zFi <| ai @zFj <| ai @zFk <| ai @zFl <| ai @zFm <| ai @zFn <| ai @zFo <| ai @zFp <| ai @zFq <| ai @zFr <| ai @zFs <| ai @zFt <| ai @zFu <| ai @zFv <| ai @zFw <| @zFx
theorem gr0:type_of% (ai @zax <| ai @zaO <| ai @zg7 <| ai @zcD <| ai @zpP <| ai @zaz <| ai @zao <| ai @zeZ <| ai @ze0 <| ai @zkZ <| ai @zg9 <| ai @zha <| ai @zcQ <| ai @zhg <| ai @zk1 <| @zk2):=ai @zax <| ai @zaO <| ai @zg7 <| ai @zcD <| ai @zpP <| ai @zaz <| ai @zao <| ai @zeZ <| ai @ze0 <| ai @zkZ <| ai @zg9 <| ai @zha <| ai @zcQ <| ai @zhg <| ai @zk1 <| @zk2
theorem gr1:type_of% (ai @ze2 <| ai @ze3 <| ai @zg8 <| ai @zpQ <| ai @zpR <| ai @zk0 <| ai @ze1 <| ai @ne_eq.{1} <| ai @not_false_eq_true <| ai @not_true_eq_false <| ai @List.mem_cons.{0} <| ai @List.not_mem_nil.{0} <| ai @or_false <| ai @if_true.{1} <| ai @if_false.{1} <| @zhj):=ai @ze2 <| ai @ze3 <| ai @zg8 <| ai @zpQ <| ai @zpR <| ai @zk0 <| ai @ze1 <| ai @ne_eq.{1} <| ai @not_false_eq_true <| ai @not_true_eq_false <| ai @List.mem_cons.{0} <| ai @List.not_mem_nil.{0} <| ai @or_false <| ai @if_true.{1} <| ai @if_false.{1} <| @zhj
theorem gr2:type_of% (ai @zhk <| ai @zrz <| ai @zxn <| ai @zxo <| ai @zk9 <| ai @zla <| ai @List.nil_append.{0} <| ai @List.cons_append.{0} <| ai @List.append_nil.{0} <| ai @zk3 <| ai @zk4 <| ai @zk5 <| ai @zhb <| ai @zqu <| ai @zhc <| @zhd):=ai @zhk <| ai @zrz <| ai @zxn <| ai @zxo <| ai @zk9 <| ai @zla <| ai @List.nil_append.{0} <| ai @List.cons_append.{0} <| ai @List.append_nil.{0} <| ai @zk3 <| ai @zk4 <| ai @zk5 <| ai @zhb <| ai @zqu <| ai @zhc <| @zhd
theorem gr3:type_of% (ai @zhe <| ai @zhf <| ai @ze8 <| ai @ze9 <| ai @zfa <| ai @zfb <| ai @zDz <| ai @zxp <| ai @zal <| ai @zfi <| ai @zd9 <| ai @zfj <| ai @zhl <| ai @zhm <| ai @zlb <| @zdo):=ai @zhe <| ai @zhf <| ai @ze8 <| ai @ze9 <| ai @zfa <| ai @zfb <| ai @zDz <| ai @zxp <| ai @zal <| ai @zfi <| ai @zd9 <| ai @zfj <| ai @zhl <| ai @zhm <| ai @zlb <| @zdo
theorem gr4:type_of% (ai @zfk <| ai @zcE <| ai @zdQ <| ai @zda <| ai @List.length_set.{0} <| ai @List.length_range <| ai @zfl <| @zfm):=ai @zfk <| ai @zcE <| ai @zdQ <| ai @zda <| ai @List.length_set.{0} <| ai @List.length_range <| ai @zfl <| @zfm
theorem gr:type_of% (ai @gr0 <| ai @gr1 <| ai @gr2 <| ai @gr3 <| @gr4):=ai @gr0 <| ai @gr1 <| ai @gr2 <| ai @gr3 <| @gr4
end Go.Abs

/- DERIVED by an AI agent. Tables: numbers of inner rows, their cells; a row that becomes a table's. No program in sight. -/
namespace Go.Abs
set_option linter.unusedSimpArgs false
def zjh (k n i:Nat):List PV:=(List.range n).map fun t=>if t < i then .own (sid k t) 1 else .v (.slice none 0 0)
theorem zwd (k n:Nat):List.replicate n (PV.v (.slice none 0 0)) = zjh k n 0:=by
 refine List.ext_getElem (by simp [zjh]) fun t a b=>by simp [zjh]
theorem zi0 (k n i:Nat):(zjh k n i).length = n:=by simp [zjh]
theorem zxN (k n:Nat):zjh k n n = zar k (List.range n):=by
 refine List.ext_getElem (by simp [zjh,zar]) fun t a b=>?_
 have:t < n:=by simpa [zjh] using a
 simp [zjh,zar,this]
theorem zxO [zah] {k n i d v:Nat} (h:i < n):(zjh k n (i + 1)).length = (spl (zjh k n i) i [.own d v]).length ∧
 ∀ t (a:t < (spl (zjh k n i) i [PV.own d v]).length) (b:t < (zjh k n (i + 1)).length),(zjh k n (i + 1))[t] = (spl (zjh k n i) i [PV.own d v])[t] ∨ ((spl (zjh k n i) i [PV.own d v])[t] = .own d v∧(zjh k n (i + 1))[t] = .own (sid k i) 1):=by
 rw [zzU (by rw [zi0];exact h)]
 refine ⟨by simp [zi0],fun t a b=>?_⟩
 rw [List.getElem_set]
 by_cases he:i = t
 ·subst he
  rw [if_pos rfl]
  refine .inr ⟨rfl,?_⟩
  simp [zjh]
 ·rw [if_neg he]
  refine .inl ?_
  simp only [zjh,List.getElem_map,List.getElem_range]
  by_cases ht:t < i
  ·rw [if_pos ht,if_pos (by omega)]
  ·rw [if_neg ht,if_neg (by omega)]
section
variable {P:Program} {T:Tab} {s:St}
theorem Wk.tab [zah] {k v e:Nat} {c:List PV} (hk:s.rw k = ⟨v,.sli e 1 false c⟩) (hc:zbY c):Wk s (s.row k ⟨v,.tab e c⟩):=by
 intro G a w ⟨E,hs⟩
 have hR:E.R k = ⟨v,.sli e 1 false c⟩:=by rw [hs.rw];exact hk
 have ht:OneTurn E w w k ⟨v,.tab e c⟩ (E.rm k) (E.rv k) :=
  ⟨fun _ _ _=>rfl,fun b hb _=>.inr ⟨hb,by rw [hR];rfl,fun _=>by rw [hR];rfl⟩,by rw [hR];exact Nat.le_refl _,
   fun _ _=>⟨by rw [hR];rfl,rfl⟩,fun _ _=>⟨by rw [hR];rfl,rfl⟩,fun _=>by have:=hs.wok.pos k (by rw [hR];rfl);rw [hR] at this;exact this,Nat.le_refl _,rfl,rfl,⟨rfl,fun _=>by first | exact Nat.le_refl _ | exact Nat.le_succ _⟩⟩
 have hturn:=ht.turn (fz:=[]) hs.wok
 have hrows:=ht.rows (fz:=[]) hs.wok (fun j hj=>by cases hj) (fun hl=>by
  have hrow:=hs.wok.rows k
  unfold zat at hrow ⊢
  rw [hR] at hrow
  simp only [Env.turn,zaj]
  rcases hrow with h | ⟨b,n,cap,vs,rest,h1,h2,h3,h4,h5,h6,h7,h8,h9⟩
  ·exact .inl h
  ·exact .inr ⟨b,n,cap,vs,rest,h1,h2,h3,h4,by omega,h6,h7,by omega,zcj hc h9⟩)
 have:=hturn.sim hs hrows
 refine ⟨E.turn [] k ⟨v,.tab e c⟩ (E.rm k) (E.rv k),?_⟩
 have e:({ s with rw:=(E.turn [] k ⟨v,.tab e c⟩ (E.rm k) (E.rv k)).R }:St) = s.row k ⟨v,.tab e c⟩:=by
  have hf:zfr E.R [] = E.R:=zee E.R
  simp only [Env.turn,hf,hs.rw]
  rfl
 rw [e] at this
 exact this
theorem Wk.ren [zah] {d k k' v vk e et sz:Nat} {c cs cs':List PV} (hd:s.rw d = ⟨v,.sli e sz false c⟩) (hk:s.rw k = ⟨vk,.tab et cs⟩) (hk':s.rw k' = ⟨0,.dead⟩) (hdl:d < lent)
 (hcs:cs'.length = cs.length∧∀ i (a:i < cs.length) (b:i < cs'.length),cs'[i] = cs[i] ∨ (cs[i] = .own d v∧cs'[i] = .own k' 1)) :
 Wk s (((s.row d ⟨v + 1,.dead⟩).row k' ⟨1,.sli e sz false c⟩).row k ⟨vk,.tab et cs'⟩):=by
 intro G a w ⟨E,hs⟩
 have hRd:E.R d = ⟨v,.sli e sz false c⟩:=by rw [hs.rw];exact hd
 have hRk:E.R k = ⟨vk,.tab et cs⟩:=by rw [hs.rw];exact hk
 have hRk':E.R k' = ⟨0,.dead⟩:=by rw [hs.rw];exact hk'
 have ndk:d ≠ k:=fun e=>by rw [e,hRk] at hRd;cases hRd
 have ndk':d ≠ k':=fun e=>by rw [e,hRk'] at hRd;cases hRd
 have nkk':k ≠ k':=fun e=>by rw [e,hRk'] at hRk;cases hRk
 let R':Nat→Row:=zbZ (zbZ (zbZ E.R d ⟨v + 1,.dead⟩) k' ⟨1,.sli e sz false c⟩) k ⟨vk,.tab et cs'⟩
 let rm':Nat→Option Nat:=zbZ (zbZ E.rm d none) k' (E.rm d)
 let rv':Nat→Value:=zbZ E.rv k' (E.rv d)
 let E':Env:={ R:=R',rm:=rm',rv:=rv',L:=mkL E.X R' rm',B:=E.B,X:=E.X }
 have Rk:E'.R k = ⟨vk,.tab et cs'⟩:=zaj _ _ _
 have Rk':E'.R k' = ⟨1,.sli e sz false c⟩:=by show R' k' = _;simp only [R'];rw [zap _ _ (Ne.symm nkk'),zaj]
 have Rd:E'.R d = ⟨v + 1,.dead⟩:=by show R' d = _;simp only [R'];rw [zap _ _ ndk,zap _ _ ndk',zaj]
 have Ro:∀ j,j ≠ d→j ≠ k→j ≠ k'→E'.R j = E.R j:=fun j h1 h2 h3=>by show R' j = _;simp only [R'];rw [zap _ _ h2,zap _ _ h3,zap _ _ h1]
 have Mk':E'.rm k' = E.rm d:=zaj _ _ _
 have Md:E'.rm d = none:=by show rm' d = _;simp only [rm'];rw [zap _ _ ndk',zaj]
 have Mo:∀ j,j ≠ d→j ≠ k'→E'.rm j = E.rm j:=fun j h1 h3=>by show rm' j = _;simp only [rm'];rw [zap _ _ h3,zap _ _ h1]
 have Vk':E'.rv k' = E.rv d:=zaj _ _ _
 have Vo:∀ j,j ≠ k'→E'.rv j = E.rv j:=fun j h=>zap _ _ h
 have hL:∀ b,E'.L b ↔ E.L b:=by
  intro b
  rw [hs.wok.live]
  constructor
  ·rintro (⟨j,h1,h2⟩ | hX)
   rotate_left
   ·exact .inr hX
   refine .inl ?_
   have h1:E'.rm j = some b:=h1
   have h2:(E'.R j).kind.live = true:=h2
   by_cases jk':j = k'
   ·subst jk';rw [Mk'] at h1;exact ⟨d,h1,by rw [hRd];rfl⟩
   ·by_cases jd:j = d
    ·subst jd;rw [Md] at h1;cases h1
    ·rw [Mo j jd jk'] at h1
     by_cases jk:j = k
     ·subst jk;exact ⟨j,h1,by rw [hRk];rfl⟩
     ·rw [Ro j jd jk jk'] at h2;exact ⟨j,h1,h2⟩
  ·rintro (⟨j,h1,h2⟩ | hX)
   rotate_left
   ·exact .inr hX
   refine .inl ?_
   by_cases jk':j = k'
   ·subst jk';rw [hRk'] at h2;cases h2
   ·by_cases jd:j = d
    ·subst jd;exact ⟨k',by show E'.rm k' = some b;rw [Mk'];exact h1,by show (E'.R k').kind.live = true;rw [Rk'];rfl⟩
    ·by_cases jk:j = k
     ·subst jk;exact ⟨j,by show E'.rm j = some b;rw [Mo j jd jk'];exact h1,by show (E'.R j).kind.live = true;rw [Rk];rfl⟩
     ·exact ⟨j,by show E'.rm j = some b;rw [Mo j jd jk'];exact h1,by show (E'.R j).kind.live = true;rw [Ro j jd jk jk'];exact h2⟩
 have hl:Lasts w w E E':=by
  refine ⟨fun b _ h=>⟨rfl,fun h'=>h ((hL b).1 h')⟩,fun j=>?_,fun j he hs'=>?_,fun j he hs'=>?_,Nat.le_refl _⟩
  all_goals
   by_cases jk':j = k'
   ·subst jk'
    first
     | (rw [hRk'];exact Nat.zero_le _)
     | (rw [Rk',hRk'] at he;cases he)
   ·by_cases jd:j = d
    ·subst jd
     first
      | (rw [Rd,hRd];exact Nat.le_succ _)
      | (rw [Rd] at hs';cases hs')
    ·by_cases jk:j = k
     ·subst jk
      first
       | (rw [Rk,hRk];exact Nat.le_refl _)
       | exact ⟨by rw [hRk];rfl,Vo j jk'⟩
       | exact ⟨by rw [hRk];rfl,Mo j jd jk'⟩
     ·first
       | (rw [Ro j jd jk jk'];exact Nat.le_refl _)
       | (rw [Ro j jd jk jk'] at hs';exact ⟨hs',Vo j jk'⟩)
       | (rw [Ro j jd jk jk'] at hs';exact ⟨hs',Mo j jd jk'⟩)
 have hwok:WOk G E' w:=by
  refine ⟨fun j=>?_,fun j j' b n1 n2 e1 e2=>?_,fun b=>Iff.rfl,fun j hn=>?_,hs.wok.base,hs.wok.xs,hs.wok.fx,fun j b hn hb=>?_,hs.wok.kept,fun j=>?_⟩
  ·by_cases jk':j = k'
   ·subst jk'
    have hrow:=hs.wok.rows d
    unfold zat at hrow ⊢
    rw [hRd] at hrow
    rw [Rk',Mk',Vk']
    rcases hrow with h | ⟨b,n,cap,vs,rest,h1,h2,h3,h4,h5,h6,h7,h8,h9⟩
    ·exact .inl h
    ·refine .inr ⟨b,n,cap,vs,rest,h1,?_,h3,h4,h5,h6,h7,h8,h9.mono hl.bare (Nat.le_refl _)⟩
     rcases h2 with h2 | h2
     ·exact .inl h2
     ·exact absurd h2.1 (by omega)
   ·by_cases jd:j = d
    ·subst jd;unfold zat;rw [Rd];trivial
    ·by_cases jk:j = k
     ·subst jk
      have hrow:=hs.wok.rows j
      unfold zat at hrow ⊢
      rw [hRk] at hrow
      rw [Rk,Mo j jd jk',Vo j jk']
      rcases hrow with ⟨g1,g2,g3⟩ | ⟨b,n,cap,vs,rest,h1,h2,h3,h4,h5,h6,h7,h8,h9⟩
      ·refine .inl ⟨g1,g2,List.eq_nil_of_length_eq_zero (by rw [hcs.1,g3];rfl)⟩
      ·refine .inr ⟨b,n,cap,vs,rest,h1,h2,h3,h4,h5,h6,h7,h8,by rw [hcs.1];exact h9.1,fun i a' b'=>?_⟩
       have ha:i < cs.length:=by rw [← hcs.1];exact a'
       have h0:=h9.2 i ha b'
       rcases hcs.2 i ha a' with he | ⟨he1,he2⟩
       ·rw [he];exact h0.mono hl (Nat.le_refl _)
       ·rw [he1] at h0
        rw [he2]
        cases h0 with
        | own hv hx =>
          refine .own (by rw [Rk'];exact Nat.le_refl _) fun _ _=>?_
          rw [Vk']
          exact hx (by rw [hRd]) (by rw [hRd];rfl)
     ·have hrow:=hs.wok.rows j
      unfold zat at hrow ⊢
      rw [Ro j jd jk jk',Mo j jd jk',Vo j jk']
      cases hkd:(E.R j).kind with
      | dead=>trivial
      | nil=>simpa only [hkd] using hrow
      | box t cells =>
        simp only [hkd] at hrow ⊢
        obtain ⟨b,vs,h1,h2,h3,h4⟩:=hrow
        exact ⟨b,vs,h1,h2,h3,h4.mono hl (Nat.le_refl _)⟩
      | sli e sz fz cells =>
        simp only [hkd] at hrow ⊢
        rcases hrow with h | ⟨b,n,cap,vs,rest,h1,h2,h3,h4,h5,h6,h7,h8,h9⟩
        ·exact .inl h
        ·exact .inr ⟨b,n,cap,vs,rest,h1,h2,h3,h4,h5,h6,h7,h8,h9.mono hl.bare (Nat.le_refl _)⟩
      | tab e cells =>
        simp only [hkd] at hrow ⊢
        rcases hrow with h | ⟨b,n,cap,vs,rest,h1,h2,h3,h4,h5,h6,h7,h8,h9⟩
        ·exact .inl h
        ·exact .inr ⟨b,n,cap,vs,rest,h1,h2,h3,h4,h5,h6,h7,h8,h9.mono hl (Nat.le_refl _)⟩
  ·
   have back:∀ j b,(E'.R j).kind.nd = true→E'.rm j = some b→(if j = k' then d else j) = (if j = k' then d else j)∧(E.R (if j = k' then d else j)).kind.nd = true∧E.rm (if j = k' then d else j) = some b∧j ≠ d:=by
    intro j b hn hm
    by_cases jk':j = k'
    ·subst jk';rw [if_pos rfl];rw [Mk'] at hm;exact ⟨rfl,by rw [hRd];rfl,hm,Ne.symm ndk'⟩
    ·rw [if_neg jk']
     have jd:j ≠ d:=fun e=>by subst e;rw [Md] at hm;cases hm
     rw [Mo j jd jk'] at hm
     refine ⟨rfl,?_,hm,jd⟩
     by_cases jk:j = k
     ·subst jk;rw [hRk];rfl
     ·rw [← Ro j jd jk jk'];exact hn
   obtain ⟨_,a1,a2,a3⟩:=back j b n1 e1
   obtain ⟨_,b1,b2,b3⟩:=back j' b n2 e2
   have:=hs.wok.inj _ _ b a1 b1 a2 b2
   by_cases jk:j = k'
   ·by_cases jk2:j' = k'
    ·rw [jk,jk2]
    ·rw [if_pos jk,if_neg jk2] at this;exact absurd this.symm b3
   ·by_cases jk2:j' = k'
    ·rw [if_neg jk,if_pos jk2] at this;exact absurd this a3
    ·rw [if_neg jk,if_neg jk2] at this;exact this
  ·by_cases jk':j = k'
   ·subst jk';rw [Rk'];exact Nat.one_pos
   ·by_cases jd:j = d
    ·subst jd;rw [Rd];exact Nat.succ_pos _
    ·by_cases jk:j = k
     ·subst jk;rw [Rk];have:=hs.wok.pos j (by rw [hRk];rfl);rw [hRk] at this;exact this
     ·rw [Ro j jd jk jk'] at hn ⊢;exact hs.wok.pos j hn
  ·by_cases jk':j = k'
   ·subst jk';rw [Mk'] at hb;exact hs.wok.apart d b (by rw [hRd];rfl) hb
   ·by_cases jd:j = d
    ·subst jd;rw [Md] at hb;cases hb
    ·rw [Mo j jd jk'] at hb
     by_cases jk:j = k
     ·subst jk;exact hs.wok.apart j b (by rw [hRk];rfl) hb
     ·rw [Ro j jd jk jk'] at hn;exact hs.wok.apart j b hn hb
  ·obtain ⟨p1,p2⟩:=hs.wok.pin j
   by_cases jk':j = k'
   ·subst jk'
    rw [hRk'] at p1
    have p1:(G.pR j).ver = 0:=Nat.le_zero.1 p1
    rw [Rk']
    exact ⟨by rw [p1];exact Nat.zero_le _,fun h=>by rw [p1] at h;cases h⟩
   ·by_cases jd:j = d
    ·subst jd
     rw [Rd]
     rw [hRd] at p1
     exact ⟨Nat.le_succ_of_le p1,fun h h'=>by cases h'⟩
    ·by_cases jk:j = k
     ·subst jk
      rw [Rk,Mo j jd jk',Vo j jk']
      rw [hRk] at p1 p2
      exact ⟨p1,fun h _=>p2 h rfl⟩
     ·rw [Ro j jd jk jk',Mo j jd jk',Vo j jk'];exact ⟨p1,p2⟩
 refine ⟨E',?_,hwok,hs.size,hs.defers,fun i=>(hs.slots i).mono hl (Nat.le_refl _)⟩
 show R' = _
 simp only [R',hs.rw]
 rfl
end
end Go.Abs
namespace Go.Abs
section
variable {Q:AX→St→Prop} {s:St}
theorem zs1 (n:Nat):zbY (List.replicate n (.v (.slice none 0 0))):=fun p hp=>by
 rw [(List.mem_replicate.1 hp).2];rfl
end
end Go.Abs
namespace Go.Abs
theorem zoj {rw:Nat→Row} {e2 k:Nat}:∀ (p:List Nat) (rows:List (List PV)) (K:List Nat→Prop),rows.length = p.length →
 (∀ i (a:i < p.length) (b:i < rows.length),sid k p[i] < lent∧rw (sid k p[i]) = ⟨1,.sli e2 1 false rows[i]⟩)→K (p.map (sid k))→zrG rw e2 (zar k p) rows K:=by
 intro p
 induction p with
 | nil=>intro rows K h _ hk;cases rows with | nil=>exact hk | cons r rs=>simp at h
 | cons j p ih =>
   intro rows K h hr hk
   cases rows with
   | nil=>simp at h
   | cons r rs =>
     have h0:=hr 0 (by simp) (by simp)
     exact ⟨h0.1,h0.2,ih rs _ (by simpa using h) (fun i a b=>hr (i + 1) (by simpa using a) (by simpa using b)) hk⟩
end Go.Abs

/- DERIVED by an AI agent. Tables of numbers: one number written, two rows swapped. No program in sight. -/
namespace Go.Abs
set_option linter.unusedSimpArgs false
set_option linter.unusedVariables false
abbrev Mat:=List (List Int)
structure TabI (rw:Nat→Row) (k v e e2:Nat) (q:List Nat) (M:Mat):Prop where
 is:TabIs rw k v e e2 q (M.map iL)
 nd:q.Nodup
theorem zb7 (M:Mat) (i:Nat):(M.map iL).getD i [] = iL (M.getD i []):=by
 by_cases h:i < M.length
 ·simp [List.getD,h]
 ·simp [List.getD,h,iL]
section
variable {rw rw':Nat→Row} {k v e e2:Nat} {q:List Nat} {M:Mat}
theorem TabI.len (h:TabI rw k v e e2 q M):q.length = M.length:=by rw [h.is.len];simp
theorem TabI.top (h:TabI rw k v e e2 q M):rw k = ⟨v,.tab e (zar k q)⟩:=h.is.top
theorem TabI.row [zah] (h:TabI rw k v e e2 q M) {i:Nat} (hi:i < M.length):rw (sid k (q.getD i 0)) = ⟨1,.sli e2 1 false (iL (M.getD i []))⟩:=by
 rw [h.is.row i (by rw [h.len];exact hi),zb7]
theorem TabI.ne [zah] (h:TabI rw k v e e2 q M) {i j:Nat} (hi:i < M.length) (hj:j < M.length) (hij:i ≠ j):¬ sid k (q.getD i 0) = sid k (q.getD j 0):=fun e=>by
 have hi':i < q.length:=by rw [h.len];exact hi
 have hj':j < q.length:=by rw [h.len];exact hj
 have h1:q.getD i 0 = q[i]:=by simp [List.getD,hi']
 have h2:q.getD j 0 = q[j]:=by simp [List.getD,hj']
 have:=za9 e
 rw [h1,h2] at this
 exact hij ((List.getElem_inj (h₀:=hi') (h₁:=hj') h.nd).1 this)
theorem TabI.same [zah] (h:TabI rw k v e e2 q M) (h1:rw' k = rw k) (h2:∀ x,rw' (sid k x) = rw (sid k x)):TabI rw' k v e e2 q M :=
 ⟨⟨h1.trans h.top,h.is.len,fun i hi=>(h2 _).trans (h.is.row i hi)⟩,h.nd⟩
theorem TabI.to (h:TabI rw k v e e2 q M) {M':Mat} (he:M = M'):TabI rw k v e e2 q M':=he ▸ h
theorem TabI.set [zah] (h:TabI rw k v e e2 q M) {i:Nat} (hi:i < M.length) {r:List Int} (h1:rw' k = rw k) (h2:rw' (sid k (q.getD i 0)) = ⟨1,.sli e2 1 false (iL r)⟩)
 (h3:∀ x,¬ sid k x = sid k (q.getD i 0)→rw' (sid k x) = rw (sid k x)):TabI rw' k v e e2 q (M.set i r):=by
 refine ⟨⟨h1.trans h.top,by rw [h.len];simp,fun j hj=>?_⟩,h.nd⟩
 have hj':j < M.length:=by rw [← h.len];exact hj
 rw [zb7]
 by_cases e:j = i
 ·subst e
  have:(M.set j r).getD j [] = r:=by simp [List.getD,hi]
  rw [h2,this]
 ·have:(M.set i r).getD j [] = M.getD j []:=by simp [List.getD,List.getElem?_set_ne (Ne.symm e)]
  rw [h3 _ (h.ne hj' hi e),h.row hj',this]
theorem TabI.swap [zah] (h:TabI rw k v e e2 q M) {a b:Nat} (ha:a < M.length) (hb:b < M.length) (h1:rw' k = ⟨v,.tab e (zar k ((q.set a (q.getD b 0)).set b (q.getD a 0)))⟩) (h2:∀ x,rw' (sid k x) = rw (sid k x)) :
 TabI rw' k v e e2 ((q.set a (q.getD b 0)).set b (q.getD a 0)) ((M.set a (M.getD b [])).set b (M.getD a []))∧((q.set a (q.getD b 0)).set b (q.getD a 0)).Perm q:=by
 have ha':a < q.length:=by rw [h.len];exact ha
 have hb':b < q.length:=by rw [h.len];exact hb
 have e1:q.getD a 0 = q[a]:=by simp [List.getD,ha']
 have e2':q.getD b 0 = q[b]:=by simp [List.getD,hb']
 have hp:((q.set a (q.getD b 0)).set b (q.getD a 0)).Perm q:=by rw [e1,e2'];exact List.set_set_perm ha' hb'
 refine ⟨⟨⟨h1,by simp [h.len],fun j hj=>?_⟩,hp.nodup_iff.2 h.nd⟩,hp⟩
 have hj':j < M.length:=by simpa [h.len] using hj
 have hjq:j < q.length:=by rw [h.len];exact hj'
 rw [zb7,h2]
 by_cases eb:j = b
 ·subst eb
  have q1:((q.set a (q.getD j 0)).set j (q.getD a 0)).getD j 0 = q.getD a 0:=by simp [List.getD,hjq]
  have q2:((M.set a (M.getD j [])).set j (M.getD a [])).getD j [] = M.getD a []:=by simp [List.getD,hj']
  rw [q1,q2];exact h.row ha
 ·by_cases ea:j = a
  ·subst ea
   have q1:((q.set j (q.getD b 0)).set b (q.getD j 0)).getD j 0 = q.getD b 0:=by
    simp only [List.getD]
    rw [List.getElem?_set_ne (Ne.symm eb),List.getElem?_set_self hjq];rfl
   have q2:((M.set j (M.getD b [])).set b (M.getD j [])).getD j [] = M.getD b []:=by
    simp only [List.getD]
    rw [List.getElem?_set_ne (Ne.symm eb),List.getElem?_set_self hj'];rfl
   rw [q1,q2];exact h.row hb
  ·have q1:((q.set a (q.getD b 0)).set b (q.getD a 0)).getD j 0 = q.getD j 0:=by
    simp only [List.getD]
    rw [List.getElem?_set_ne (Ne.symm eb),List.getElem?_set_ne (Ne.symm ea)]
   have q2:((M.set a (M.getD b [])).set b (M.getD a [])).getD j [] = M.getD j []:=by
    simp only [List.getD]
    rw [List.getElem?_set_ne (Ne.symm eb),List.getElem?_set_ne (Ne.symm ea)]
   rw [q1,q2];exact h.row hj'
end
structure TabP (rw:Nat→Row) (k v e e2 n i:Nat) (M:Mat):Prop where
 top:rw k = ⟨v,.tab e (zjh k n i)⟩
 len:M.length = i
 row:∀ j,j < i→rw (sid k j) = ⟨1,.sli e2 1 false (iL (M.getD j []))⟩
 rest:∀ j,i ≤ j→rw (sid k j) = ⟨0,.dead⟩
section
variable {s:St} {rw rw':Nat→Row} {k v e e2 n i d vd:Nat} {M:Mat} {r:List Int}
theorem TabP.init [zah] (e2:Nat) (hk:s.rw k = ⟨v,.sli e 1 false (List.replicate n (.v (.slice none 0 0)))⟩) (hd:∀ j,s.rw (sid k j) = ⟨0,.dead⟩) :
 ∃ s',Wk s s'∧TabP s'.rw k v e e2 n 0 []∧s'.sl = s.sl∧∀ j,(j % 1000 == k % 1000) = false→s'.rw j = s.rw j:=by
 refine ⟨_,Wk.tab hk (zs1 n),⟨?_,rfl,fun j hj=>absurd hj (by omega),fun j _=>?_⟩,rfl,fun j hj=>?_⟩
 ·rw [zaz,zwd]
 ·rw [zao _ _ _ _ (zbN k j)];exact hd j
 ·have hj:=beq_eq_false_iff_ne.1 hj
  rw [zao _ _ _ _ (fun e=>hj (by rw [e]))]
theorem zfB {M:Mat} {r:List Int} {j:Nat}:(M ++ [r]).getD j [] = if j < M.length then M.getD j [] else if j = M.length then r else []:=by
 by_cases h1:j < M.length
 ·rw [if_pos h1];simp [List.getD,List.getElem?_append_left h1]
 ·rw [if_neg h1]
  by_cases h2:j = M.length
  ·rw [if_pos h2];subst h2;simp [List.getD]
  ·rw [if_neg h2];simp [List.getD,List.getElem?_append_right (by omega:M.length ≤ j)];rw [List.getElem?_eq_none (by simp;omega)];rfl
theorem TabP.push [zah] (hk:s.rw k = ⟨v,.tab e (spl (zjh k n i) i [.own d vd])⟩) (hl:M.length = i) (hrow:∀ j,j < i→s.rw (sid k j) = ⟨1,.sli e2 1 false (iL (M.getD j []))⟩) (hrest:∀ j,i ≤ j→s.rw (sid k j) = ⟨0,.dead⟩)
 (hd:s.rw d = ⟨vd,.sli e2 1 false (iL r)⟩) (hdl:d < lent) (hdk:(d % 1000 == k % 1000) = false) (hi:i < n) :
 ∃ s',Wk s s'∧TabP s'.rw k v e e2 n (i + 1) (M ++ [r])∧s'.sl = s.sl∧∀ j,(j % 1000 == k % 1000) = false→(j == d) = false→s'.rw j = s.rw j:=by
 have hdk':=beq_eq_false_iff_ne.1 hdk
 have ndk:d ≠ k:=fun e=>hdk' (by rw [e])
 have nds:∀ j,d ≠ sid k j:=fun j e=>hdk' (by rw [e,zaa])
 refine ⟨_,Wk.ren (k':=sid k i) (cs':=zjh k n (i + 1)) hd hk (hrest i (Nat.le_refl i)) hdl (zxO hi),⟨?_,by simp [hl],fun j hj=>?_,fun j hj=>?_⟩,rfl,fun j hj hj2=>?_⟩
 ·rw [zaz]
 ·rw [zao _ _ _ _ (zbN k j),zfB,hl]
  by_cases e1:j = i
  ·subst e1
   rw [zaz,if_neg (by omega),if_pos rfl]
  ·rw [zao _ _ _ _ (fun h=>e1 (za9 h)),zao _ _ _ _ (Ne.symm (nds j)),if_pos (by omega)]
   exact hrow j (by omega)
 ·rw [zao _ _ _ _ (zbN k j),zao _ _ _ _ (fun h=>by have:=za9 h;omega),zao _ _ _ _ (Ne.symm (nds j))]
  exact hrest j (by omega)
 ·have hj:=beq_eq_false_iff_ne.1 hj
  have hj2:=beq_eq_false_iff_ne.1 hj2
  rw [zao _ _ _ _ (fun e=>hj (by rw [e])),zao _ _ _ _ (fun e=>hj (by rw [e,zaa])),zao _ _ _ _ hj2]
theorem TabP.set (h:TabP rw k v e e2 n i M) {j:Nat} (hj:j < i) (h1:rw' k = rw k) (h2:rw' (sid k j) = ⟨1,.sli e2 1 false (iL r)⟩) (h3:∀ x,¬ x = j→rw' (sid k x) = rw (sid k x)):TabP rw' k v e e2 n i (M.set j r):=by
 refine ⟨h1.trans h.top,by simp [h.len],fun x hx=>?_,fun x hx=>(h3 x (by omega)).trans (h.rest x hx)⟩
 by_cases e:x = j
 ·subst e
  have:(M.set x r).getD x [] = r:=by simp [List.getD,h.len,hj]
  rw [h2,this]
 ·have:(M.set j r).getD x [] = M.getD x []:=by simp [List.getD,List.getElem?_set_ne (Ne.symm e)]
  rw [h3 x e,h.row x hx,this]
theorem TabP.same (h:TabP rw k v e e2 n i M) (h1:rw' k = rw k) (h2:∀ x,rw' (sid k x) = rw (sid k x)):TabP rw' k v e e2 n i M :=
 ⟨h1.trans h.top,h.len,fun j hj=>(h2 j).trans (h.row j hj),fun j hj=>(h2 j).trans (h.rest j hj)⟩
theorem TabP.done [zah] (h:TabP rw k v e e2 n n M):TabI rw k v e e2 (List.range n) M:=by
 refine ⟨⟨by rw [h.top,zxN],by simp [h.len],fun j hj=>?_⟩,List.nodup_range⟩
 have hj:j < n:=by simpa using hj
 have e1:(List.range n).getD j 0 = j:=by simp [List.getD,hj]
 rw [e1,zb7];exact h.row j hj
theorem ziZ [zah] {q:List Nat} (h:TabI rw k v e e2 q M) (hk:k < 1000) (hq:∀ j ∈ q,j < 998) {Kn:List Nat→Prop} (hK:Kn (k :: q.map (sid k))):zlc rw (.own k v) (.tb e e2 (M.map iL)) Kn:=by
 have hkl:k < lent:=by unfold lent;omega
 unfold zlc
 simp only [h.top]
 refine ⟨hkl,trivial,trivial,zoj q (M.map iL) _ (by rw [List.length_map,h.len]) (fun i a b=>?_) hK⟩
 have hm:i < M.length:=by simpa using b
 have hr:=h.row hm
 have e1:q.getD i 0 = q[i]:=by simp [List.getD,a]
 have e3:M.getD i [] = M[i]:=by simp [List.getD,hm]
 rw [e1,e3] at hr
 refine ⟨zrP hk (hq _ (List.getElem_mem a)),?_⟩
 rw [hr,List.getElem_map]
end
section
variable {Q:AX→St→Prop} {s:St} {k v e e2 n i d vd:Nat} {M:Mat} {r:List Int}
end
section
variable {s:St}
theorem Wk.untab [zah] {k v e:Nat} {c:List PV} (hk:s.rw k = ⟨v,.tab e c⟩) (hc:zbY c):Wk s (s.row k ⟨v,.sli e 1 false c⟩):=by
 intro G a w ⟨E,hs⟩
 have hR:E.R k = ⟨v,.tab e c⟩:=by rw [hs.rw];exact hk
 have ht:OneTurn E w w k ⟨v,.sli e 1 false c⟩ (E.rm k) (E.rv k) :=
  ⟨fun _ _ _=>rfl,fun b hb _=>.inr ⟨hb,by rw [hR];rfl,fun _=>by rw [hR];rfl⟩,by rw [hR];exact Nat.le_refl _,
   fun _ _=>⟨by rw [hR];rfl,rfl⟩,fun _ _=>⟨by rw [hR];rfl,rfl⟩,fun _=>by have:=hs.wok.pos k (by rw [hR];rfl);rw [hR] at this;exact this,Nat.le_refl _,rfl,rfl,⟨rfl,fun _=>by first | exact Nat.le_refl _ | exact Nat.le_succ _⟩⟩
 have hturn:=ht.turn (fz:=[]) hs.wok
 have hrows:=ht.rows (fz:=[]) hs.wok (fun j hj=>by cases hj) (fun hl=>by
  have hrow:=hs.wok.rows k
  unfold zat at hrow ⊢
  rw [hR] at hrow
  simp only [Env.turn,zaj]
  rcases hrow with h | ⟨b,n,cap,vs,rest,h1,h2,h3,h4,h5,h6,h7,h8,h9⟩
  ·exact .inl h
  ·exact .inr ⟨b,n,cap,vs,rest,h1,h2,h3,h4,by omega,h6,h7,by omega,zcj hc h9⟩)
 have:=hturn.sim hs hrows
 refine ⟨E.turn [] k ⟨v,.sli e 1 false c⟩ (E.rm k) (E.rv k),?_⟩
 have e:({ s with rw:=(E.turn [] k ⟨v,.sli e 1 false c⟩ (E.rm k) (E.rv k)).R }:St) = s.row k ⟨v,.sli e 1 false c⟩:=by
  have hf:zfr E.R [] = E.R:=zee E.R
  simp only [Env.turn,hf,hs.rw]
  rfl
 rw [e] at this
 exact this
structure TabG (rw:Nat→Row) (k v e e2 n:Nat) (M:Mat):Prop where
 top:rw k = ⟨v,.tab e (zar k (List.range n))⟩
 len:M.length = n
 row:∀ j,j < n→rw (sid k j) = ⟨1,.sli e2 1 false (iL (M.getD j []))⟩
 rest:∀ j,n ≤ j→rw (sid k j) = ⟨0,.dead⟩
variable {rw rw':Nat→Row} {k v e e2 n d vd:Nat} {M:Mat} {r:List Int}
theorem TabG.same (h:TabG rw k v e e2 n M) (h1:rw' k = rw k) (h2:∀ x,rw' (sid k x) = rw (sid k x)):TabG rw' k v e e2 n M :=
 ⟨h1.trans h.top,h.len,fun j hj=>(h2 j).trans (h.row j hj),fun j hj=>(h2 j).trans (h.rest j hj)⟩
theorem TabG.done [zah] (h:TabG rw k v e e2 n M):TabI rw k v e e2 (List.range n) M:=by
 refine ⟨⟨h.top,by simp [h.len],fun j hj=>?_⟩,List.nodup_range⟩
 have hj:j < n:=by simpa using hj
 have e1:(List.range n).getD j 0 = j:=by simp [List.getD,hj]
 rw [e1,zb7];exact h.row j hj
theorem TabG.init [zah] (e2:Nat) (hk:s.rw k = ⟨v,.sli e 1 false []⟩) (hd:∀ j,s.rw (sid k j) = ⟨0,.dead⟩) :
 ∃ s',Wk s s'∧TabG s'.rw k v e e2 0 []∧s'.sl = s.sl∧∀ j,(j % 1000 == k % 1000) = false→s'.rw j = s.rw j:=by
 refine ⟨_,Wk.tab hk (fun p hp=>by cases hp),⟨?_,rfl,fun j hj=>absurd hj (by omega),fun j _=>?_⟩,rfl,fun j hj=>?_⟩
 ·rw [zaz];rfl
 ·rw [zao _ _ _ _ (zbN k j)];exact hd j
 ·have hj:=beq_eq_false_iff_ne.1 hj
  rw [zao _ _ _ _ (fun e=>hj (by rw [e]))]
theorem TabG.push [zah] (hk:s.rw k = ⟨v,.tab e (zar k (List.range n) ++ [.own d vd])⟩) (hl:M.length = n) (hrow:∀ j,j < n→s.rw (sid k j) = ⟨1,.sli e2 1 false (iL (M.getD j []))⟩) (hrest:∀ j,n ≤ j→s.rw (sid k j) = ⟨0,.dead⟩)
 (hd:s.rw d = ⟨vd,.tab e2 (iL r)⟩) (hdl:d < lent) (hdk:(d % 1000 == k % 1000) = false) :
 ∃ s',Wk s s'∧TabG s'.rw k v e e2 (n + 1) (M ++ [r])∧s'.sl = s.sl∧∀ j,(j % 1000 == k % 1000) = false→(j == d) = false→s'.rw j = s.rw j:=by
 have hdk':=beq_eq_false_iff_ne.1 hdk
 have ndk:d ≠ k:=fun e=>hdk' (by rw [e])
 have nds:∀ j,d ≠ sid k j:=fun j e=>hdk' (by rw [e,zaa])
 have w1:Wk s (s.row d ⟨vd,.sli e2 1 false (iL r)⟩):=Wk.untab hd (zcR r)
 have hcs:(zar k (List.range (n + 1))).length = (zar k (List.range n) ++ [PV.own d vd]).length∧∀ i (a:i < (zar k (List.range n) ++ [PV.own d vd]).length) (b:i < (zar k (List.range (n + 1))).length),
  (zar k (List.range (n + 1)))[i] = (zar k (List.range n) ++ [PV.own d vd])[i] ∨ ((zar k (List.range n) ++ [PV.own d vd])[i] = .own d vd∧(zar k (List.range (n + 1)))[i] = .own (sid k n) 1):=by
  refine ⟨by simp [zal],fun i a b=>?_⟩
  have hi:i < n + 1:=by simpa [zal] using b
  by_cases h:i < n
  ·refine .inl ?_
   rw [List.getElem_append_left (by simpa [zal] using h)]
   simp [zar]
  ·have:i = n:=by omega
   subst this
   refine .inr ⟨?_,?_⟩
   ·rw [List.getElem_append_right (by simp [zal])];simp [zal]
   ·simp [zar]
 have w2:=Wk.ren (s:=s.row d ⟨vd,.sli e2 1 false (iL r)⟩) (d:=d) (k:=k) (k':=sid k n) (v:=vd) (vk:=v) (e:=e2) (et:=e) (sz:=1) (c:=iL r) (cs:=zar k (List.range n) ++ [.own d vd]) (cs':=zar k (List.range (n + 1)))
  (zaz _ _ _) (by rw [zao _ _ _ _ (Ne.symm ndk)];exact hk) (by rw [zao _ _ _ _ (Ne.symm (nds n))];exact hrest n (Nat.le_refl n)) hdl hcs
 refine ⟨_,w1.trans w2,⟨?_,by simp [hl],fun j hj=>?_,fun j hj=>?_⟩,rfl,fun j hj hj2=>?_⟩
 ·rw [zaz]
 ·rw [zao _ _ _ _ (zbN k j),zfB,hl]
  by_cases e1:j = n
  ·subst e1
   rw [zaz,if_neg (by omega),if_pos rfl]
  ·rw [zao _ _ _ _ (fun h=>e1 (za9 h)),zao _ _ _ _ (Ne.symm (nds j)),zao _ _ _ _ (Ne.symm (nds j)),if_pos (by omega)]
   exact hrow j (by omega)
 ·rw [zao _ _ _ _ (zbN k j),zao _ _ _ _ (fun h=>by have:=za9 h;omega),zao _ _ _ _ (Ne.symm (nds j)),zao _ _ _ _ (Ne.symm (nds j))]
  exact hrest j (by omega)
 ·have hj:=beq_eq_false_iff_ne.1 hj
  have hj2:=beq_eq_false_iff_ne.1 hj2
  rw [zao _ _ _ _ (fun e=>hj (by rw [e])),zao _ _ _ _ (fun e=>hj (by rw [e,zaa])),zao _ _ _ _ hj2,zao _ _ _ _ hj2]
variable {Q:AX→St→Prop}
theorem zhx [zah] {α:Type} (hk:s.rw k = ⟨v,.sli e 1 false []⟩) (hd:∀ j,s.rw (sid k j) = ⟨0,.dead⟩) (I:α→St→Prop) (μ:α→Nat) (x0:α) {b:(AX→St→Prop)→St→Prop} {u:Dm b} {w:Dm Q}
 (h0:∀ s',TabG s'.rw k v e e2 0 []→s'.sl = s.sl→(∀ j,(j % 1000 == k % 1000) = false→s'.rw j = s.rw j)→I x0 s') (h:∀ x s1,I x s1→b (AX.seq (zoS I μ (μ x)) Q) s1):zvo (kk b u) (kk Q w) s:=by
 obtain ⟨s',hw,ht,hsl,ho⟩:=TabG.init e2 hk hd
 exact ⟨α,I,μ,⟨x0,s',hw,h0 s' ht hsl ho⟩,h⟩
end
section
variable {s:St} {rw rw':Nat→Row} {k v e e2 n d vd:Nat} {M:Mat} {r:List Int}
theorem TabG.push0 [zah] (hk:s.rw k = ⟨v,.tab e (zar k (List.range n) ++ [.own d vd])⟩) (hl:M.length = n) (hrow:∀ j,j < n→s.rw (sid k j) = ⟨1,.sli e2 1 false (iL (M.getD j []))⟩) (hrest:∀ j,n ≤ j→s.rw (sid k j) = ⟨0,.dead⟩)
 (hd:s.rw d = ⟨vd,.sli e2 1 false (iL r)⟩) (hdl:d < lent) (hdk:(d % 1000 == k % 1000) = false) :
 ∃ s',Wk s s'∧TabG s'.rw k v e e2 (n + 1) (M ++ [r])∧s'.sl = s.sl∧∀ j,(j % 1000 == k % 1000) = false→(j == d) = false→s'.rw j = s.rw j:=by
 have hdk':=beq_eq_false_iff_ne.1 hdk
 have ndk:d ≠ k:=fun e=>hdk' (by rw [e])
 have nds:∀ j,d ≠ sid k j:=fun j e=>hdk' (by rw [e,zaa])
 have w1:Wk s (s.row d ⟨vd,.tab e2 (iL r)⟩):=Wk.tab hd (zcR r)
 obtain ⟨s',h1,h2,h3,h4⟩:=TabG.push (s:=s.row d ⟨vd,.tab e2 (iL r)⟩) (k:=k) (v:=v) (e:=e) (e2:=e2) (n:=n) (d:=d) (vd:=vd) (M:=M) (r:=r) (by rw [zao _ _ _ _ (Ne.symm ndk)];exact hk) hl
  (fun j hj=>by rw [zao _ _ _ _ (Ne.symm (nds j))];exact hrow j hj) (fun j hj=>by rw [zao _ _ _ _ (Ne.symm (nds j))];exact hrest j hj) (zaz _ _ _) hdl hdk
 refine ⟨s',w1.trans h1,h2,h3,fun j a b=>?_⟩
 rw [h4 j a b,zao _ _ _ _ (beq_eq_false_iff_ne.1 b)]
theorem zcK [zah] {α:Type} {I:α→St→Prop} {μ:α→Nat} {m:Nat} (hk:s.rw k = ⟨v,.tab e (zar k (List.range n) ++ [.own d vd])⟩) (hl:M.length = n) (hrow:∀ j,j < n→s.rw (sid k j) = ⟨1,.sli e2 1 false (iL (M.getD j []))⟩) (hrest:∀ j,n ≤ j→s.rw (sid k j) = ⟨0,.dead⟩)
 (hd:s.rw d = ⟨vd,.sli e2 1 false (iL r)⟩) (hdl:d < lent) (hdk:(d % 1000 == k % 1000) = false) (x':α)
 (h0:∀ s',TabG s'.rw k v e e2 (n + 1) (M ++ [r])→s'.sl = s.sl→(∀ j,(j % 1000 == k % 1000) = false→(j == d) = false→s'.rw j = s.rw j)→I x' s') (hm:μ x' < m):zoS I μ m s:=by
 obtain ⟨s',hw,ht,hsl,ho⟩:=TabG.push0 hk hl hrow hrest hd hdl hdk
 exact ⟨x',s',hw,h0 s' ht hsl ho,hm⟩
end
theorem TabI.adopt [zah] {s:St} {rw':Nat→Row} {d v e e2 n:Nat} {M:Mat} (h1:rw' d = (zam s d (.tb e e2 (M.map iL))).rw d) (h2:∀ x,rw' (sid d x) = (zam s d (.tb e e2 (M.map iL))).rw (sid d x)) (h:∀ i,i < M.length→(s.rw (sid d i)).ver = 0) (hv:(s.rw d).ver + 1 = v) (hn:M.length = n) :
 TabI rw' d v e e2 (List.range n) M:=by
 subst hv hn
 have h0:TabI (zam s d (.tb e e2 (M.map iL))).rw d ((s.rw d).ver + 1) e e2 (List.range M.length) M:=⟨by
  have:=znQ (s:=s) d e e2 (M.map iL) (fun i hi=>h i (by simpa using hi))
  rwa [List.length_map] at this,List.nodup_range⟩
 exact h0.same h1 h2
theorem AC.flat [zah] {P:Program} {f:FuncId} {args:List PV} {e e2:Nat} {rows:List (List PV)} (h:AC P f args (.tb e e2 rows)):AC P f args (.fr e 1 (rows.map fun r=>.sl false 1 r)):=by
 refine ⟨h.1,fun w vals hp hv=>(h.2 w vals hp hv).mono fun en w' ⟨v,lv,he,hx,hout,hn⟩=>?_⟩
 cases hout with
 | tbn=>exact ⟨_,_,he,hx,.nil,by simp [blk]⟩
 | @tb _ _ b n cap _ vs rest lvs hB hh hnn hc hm hl h1 h2 hvv hin =>
   refine ⟨_,[(.slice (some ⟨b,0,none⟩) n cap,some b)],he,hx,.fr hB hh (by omega) hc hm (by omega) ⟨by simp [h1,hnn],fun i a b'=>?_⟩,by simp [blk]⟩
   have hi:i < rows.length:=by simpa using a
   have h0:=hin i hi b' (by omega)
   simp only [List.getElem_map]
   have hbl:blk ((Value.slice (some ⟨b,0,none⟩) n cap,some b) :: lvs) = b :: blk lvs:=rfl
   have e1:blk [(Value.slice (some ⟨b,0,none⟩) n cap,some b)] = [b]:=rfl
   rw [e1]
   rw [hbl] at hn h0
   generalize hri:rows[i] = ri at *
   generalize hvi:vs[i] = vi at *
   generalize hli:lvs[i]'(by omega) = li at *
   cases h0 with
   | nil=>exact zcH _ _ _ _ _
   | @fr _ _ b2 n2 cap2 _ vs2 rest2 hB2 hh2 hn2 hc2 hm2 hl2 hr2 =>
     have hb2:b2 ∈ blk lvs:=by
      simp only [blk,List.mem_filterMap]
      exact ⟨_,List.getElem_mem (by omega:i < lvs.length),by rw [hli]⟩
     have hne:b2 ≠ b:=fun e=>(List.nodup_cons.1 hn).1 (e ▸ hb2)
     have hB3:w.heap.size ≤ b2:=hB2
     refine .sl (fun j=>vs2.getD j undef) (hr2.1.trans hn2) hc2 hm2 (fun j hj=>⟨b2,0,rfl,?_,fun hL=>?_,?_⟩) (fun j hj=>?_)
     ·show max w.heap.size (if false = true then _ else 0) ≤ b2
      simp;exact hB3
     ·rcases hL with hL | hL
      ·have:b2 < w.heap.size:=hL
       omega
      ·exact hne (List.mem_singleton.1 hL)
     ·have hj':j < vs2.length:=by rw [← hr2.1];exact hj
      rw [Nat.zero_add,zaB hh2 (by simp;omega)]
      simp [List.getElem_append_left hj',List.getD,hj']
     ·have hj':j < vs2.length:=by rw [← hr2.1];exact hj
      have e2':vs2.getD j undef = vs2[j]:=by simp [List.getD,hj']
      rw [e2']
      have h3:=hr2.2 j hj hj'
      have h4:Rep w' (Env.out w.heap.size [b]).bare.bare w.heap.size ri[j] vs2[j]:=by
       refine Rep.above (E:=(Env.out w.heap.size (b :: blk lvs)).bare) h3 (fun _=>rfl) (fun _=>rfl) rfl rfl fun x hx' hL hL'=>?_
       rcases hL' with hL' | hL'
       ·exact hL (.inl hL')
       ·exact hL (.inr (by rw [List.mem_singleton.1 hL'];exact List.mem_cons_self))
      refine h4.low ?_
      show max w.heap.size (if false = true then _ else 0) ≤ w.heap.size
      simp
end Go.Abs

/- DERIVED by an AI agent. Tables whose rows are appended to. No program in sight. -/
namespace Go.Abs
set_option linter.unusedSimpArgs false
set_option linter.unusedVariables false
def zdh (k n:Nat) (g:Nat→Nat):List PV:=(List.range n).map fun j=>.own (sid k j) (g j)
theorem zlC (k n:Nat) (g:Nat→Nat):(zdh k n g).length = n:=by simp [zdh]
structure TabF (rw:Nat→Row) (k v e e2 n:Nat) (g:Nat→Nat) (M:Nat→List Int):Prop where
 top:rw k = ⟨v,.tab e (zdh k n g)⟩
 row:∀ j,j < n→rw (sid k j) = ⟨g j,.sli e2 1 false (iL (M j))⟩
section
variable {s:St} {rw rw':Nat→Row} {k v e e2 n:Nat} {g:Nat→Nat} {M:Nat→List Int}
theorem TabF.same (h:TabF rw k v e e2 n g M) (h1:rw' k = rw k) (h2:∀ x,rw' (sid k x) = rw (sid k x)):TabF rw' k v e e2 n g M:=⟨h1.trans h.top,fun j hj=>(h2 j).trans (h.row j hj)⟩
theorem TabF.add (h:TabF rw k v e e2 n g M) {o:Nat} (ho:o < n) {r:List Int} {g':Nat→Nat} {M':Nat→List Int} (h1:rw' k = ⟨v,.tab e (spl (zdh k n g) o [.own (sid k o) (g o + 1)])⟩) (h2:rw' (sid k o) = ⟨g o + 1,.sli e2 1 false (iL r)⟩)
 (h3:∀ x,¬ x = o→rw' (sid k x) = rw (sid k x)) (hg:∀ j,j < n→g' j = if j = o then g o + 1 else g j) (hM:∀ j,j < n→M' j = if j = o then r else M j):TabF rw' k v e e2 n g' M':=by
 refine ⟨?_,fun j hj=>?_⟩
 ·rw [h1]
  congr 2
  show (zdh k n g).set o _ = _
  refine List.ext_getElem (by simp [zdh]) fun j a b=>?_
  have hj:j < n:=by simpa [zdh] using b
  rw [List.getElem_set]
  simp only [zdh,List.getElem_map,List.getElem_range,hg j hj]
  by_cases e:o = j
  ·subst e;simp
  ·rw [if_neg e,if_neg (Ne.symm e)]
 ·rw [hg j hj,hM j hj]
  by_cases e:j = o
  ·subst e;rw [if_pos rfl,if_pos rfl,h2]
  ·rw [if_neg e,if_neg e,h3 j e,h.row j hj]
theorem TabF.init [zah] (e2:Nat) (hk:s.rw k = ⟨v,.sli e 1 false (List.replicate n (.v (.slice none 0 0)))⟩) (hd:∀ j,s.rw (sid k j) = ⟨0,.dead⟩) :
 ∃ s',Wk s s'∧TabF s'.rw k v e e2 n (fun _=>1) (fun _=>[])∧s'.sl = s.sl∧∀ j,(j % 1000 == k % 1000) = false→s'.rw j = s.rw j:=by
 let R':(Nat→Row)→Nat→Row:=fun R j=>if j = k then ⟨v,.tab e (zdh k n fun _=>1)⟩ else if k < j∧(j - k) % 1000 = 0∧(j - k) / 1000 - 1 < n then ⟨1,.sli e2 1 false []⟩ else R j
 have Rk:∀ R,R' R k = ⟨v,.tab e (zdh k n fun _=>1)⟩:=fun R=>by simp only [R',if_true]
 have Rs:∀ R j,j < n→R' R (sid k j) = ⟨1,.sli e2 1 false []⟩:=fun R j hj=>by
  have h1:¬ sid k j = k:=zbN k j
  have h2:k < sid k j∧(sid k j - k) % 1000 = 0∧(sid k j - k) / 1000 - 1 < n:=by rw [zaT];omega
  simp only [R',if_neg h1,if_pos h2]
 have Ro:∀ R j,¬ (j = k ∨ ∃ i,i < n∧j = sid k i)→R' R j = R j:=fun R j hj=>by
  have h1:¬ j = k:=fun h=>hj (.inl h)
  have h2:¬ (k < j∧(j - k) % 1000 = 0∧(j - k) / 1000 - 1 < n):=fun h=>hj (.inr ⟨_,h.2.2,by rw [zaT];omega⟩)
  simp only [R',if_neg h1,if_neg h2]
 refine ⟨{ s with rw:=R' s.rw },?_,⟨Rk _,fun j hj=>Rs _ j hj⟩,rfl,fun j hj=>?_⟩
 ·intro G a w ⟨E,hs⟩
  have hR:E.R k = ⟨v,.sli e 1 false (List.replicate n (.v (.slice none 0 0)))⟩:=by rw [hs.rw];exact hk
  have hD:∀ j,E.R (sid k j) = ⟨0,.dead⟩:=fun j=>by rw [hs.rw];exact hd j
  let rm':Nat→Option Nat:=fun j=>if j = k then E.rm k else if k < j∧(j - k) % 1000 = 0∧(j - k) / 1000 - 1 < n then none else E.rm j
  let rv':Nat→Value:=fun j=>if j = k then E.rv k else if k < j∧(j - k) % 1000 = 0∧(j - k) / 1000 - 1 < n then .slice none 0 0 else E.rv j
  have Mk:rm' k = E.rm k:=by simp only [rm',if_true]
  have Vk:rv' k = E.rv k:=by simp only [rv',if_true]
  have cond:∀ j,j < n→¬ sid k j = k∧(k < sid k j∧(sid k j - k) % 1000 = 0∧(sid k j - k) / 1000 - 1 < n):=fun j hj=>⟨zbN k j,by rw [zaT];omega⟩
  have Ms:∀ j,j < n→rm' (sid k j) = none:=fun j hj=>by simp only [rm',if_neg (cond j hj).1,if_pos (cond j hj).2]
  have Vs:∀ j,j < n→rv' (sid k j) = .slice none 0 0:=fun j hj=>by simp only [rv',if_neg (cond j hj).1,if_pos (cond j hj).2]
  have out:∀ j,¬ (j = k ∨ ∃ i,i < n∧j = sid k i)→rm' j = E.rm j∧rv' j = E.rv j:=fun j hj=>by
   have h1:¬ j = k:=fun h=>hj (.inl h)
   have h2:¬ (k < j∧(j - k) % 1000 = 0∧(j - k) / 1000 - 1 < n):=fun h=>hj (.inr ⟨_,h.2.2,by rw [zaT];omega⟩)
   simp only [rm',rv',if_neg h1,if_neg h2,and_self]
  let E':Env:={ R:=R' E.R,rm:=rm',rv:=rv',L:=mkL E.X (R' E.R) rm',B:=E.B,X:=E.X }
  have ht:Turn G E E' w w (fun j=>j = k ∨ ∃ i,i < n∧j = sid k i):=by
   refine ⟨rfl,rfl,rfl,fun j hj=>⟨Ro _ j hj,(out j hj).1,(out j hj).2⟩,fun _ _ _=>rfl,fun j b hj hb hn=>?_,fun j hj=>?_,fun j hj he hsl=>?_,fun j hj he hsl=>?_,fun j hj hn=>?_,fun j j' b hj hj' h1 h2 e1 e2=>?_,Nat.le_refl _,rfl,rfl,⟨rfl,fun _=>by first | exact Nat.le_refl _ | exact Nat.le_succ _⟩⟩
   ·rcases hj with rfl | ⟨i,hi,rfl⟩
    ·have hb:rm' j = some b:=hb
     rw [Mk] at hb
     exact .inr ⟨hb,by rw [hR];rfl,fun _=>by rw [hR];rfl⟩
    ·have hb:rm' (sid k i) = some b:=hb
     rw [Ms i hi] at hb;cases hb
   ·show _ ≤ (R' E.R j).ver
    rcases hj with rfl | ⟨i,hi,rfl⟩
    ·rw [Rk,hR];exact Nat.le_refl _
    ·rw [Rs _ i hi,hD];exact Nat.zero_le _
   ·have he:(R' E.R j).ver = (E.R j).ver:=he
    rcases hj with rfl | ⟨i,hi,rfl⟩
    ·exact ⟨by rw [hR];rfl,Vk⟩
    ·rw [Rs _ i hi,hD] at he;cases he
   ·have he:(R' E.R j).ver = (E.R j).ver:=he
    rcases hj with rfl | ⟨i,hi,rfl⟩
    ·exact ⟨by rw [hR];rfl,Mk⟩
    ·rw [Rs _ i hi,hD] at he;cases he
   ·show 0 < (R' E.R j).ver
    rcases hj with rfl | ⟨i,hi,rfl⟩
    ·have:=hs.wok.pos j (by rw [hR];rfl)
     rw [hR] at this
     rw [Rk];exact this
    ·rw [Rs _ i hi];exact Nat.one_pos
   ·have e1:rm' j = some b:=e1
    have e2:rm' j' = some b:=e2
    rcases hj with rfl | ⟨i,hi,rfl⟩
    ·rcases hj' with rfl | ⟨i',hi',rfl⟩
     ·rfl
     ·rw [Ms i' hi'] at e2;cases e2
    ·rw [Ms i hi] at e1;cases e1
  have hrows:∀ j,(j = k ∨ ∃ i,i < n∧j = sid k i)→zat w E' G.C j:=by
   intro j hj
   unfold zat
   show match (R' E.R j).kind with | .dead=>True | .nil=>_ | .box t cells=>_ | .sli e sz _ cells=>_ | .tab e cells=>_
   rcases hj with rfl | ⟨i,hi,rfl⟩
   ·have hrow:=hs.wok.rows j
    unfold zat at hrow
    rw [hR] at hrow
    rw [Rk]
    show (rm' j = none∧rv' j = _∧_) ∨ _
    rw [Mk,Vk]
    rcases hrow with ⟨h1,h2,h3⟩ | ⟨b,m,cap,vs,rest,h1,h2,h3,h4,h5,h6,h7,h8,h9⟩
    ·refine .inl ⟨h1,h2,?_⟩
     have:n = 0:=by simpa using congrArg List.length h3
     subst this;rfl
    ·refine .inr ⟨b,m,cap,vs,rest,Mk.trans h1,h2,Vk.trans h3,h4,by omega,h6,h7,by omega,by rw [zlC,← h9.1];simp,fun i a' b'=>?_⟩
     have hi:i < n:=by simpa [zdh] using a'
     have h0:=h9.2 i (by simpa using hi) b'
     have e1:(zdh j n fun _=>1)[i] = .own (sid j i) 1:=by simp [zdh]
     have hv:vs[i] = .slice none 0 0:=by
      simp only [List.getElem_replicate] at h0
      exact h0.v_eq
     rw [e1,hv]
     refine .own ?_ fun _ _=>?_
     ·show 1 ≤ (R' E.R (sid j i)).ver
      rw [Rs _ i hi];exact Nat.le_refl _
     ·exact (Vs i hi).symm
   ·rw [Rs _ i hi]
    exact .inl ⟨Ms i hi,Vs i hi,rfl⟩
  have key:SimE G E' ({ s with rw:=R' E.R }:St) a w:=ht.sim hs hrows
  rw [hs.rw] at key
  exact ⟨_,key⟩
 ·have hj:=beq_eq_false_iff_ne.1 hj
  refine Ro _ j fun h=>hj ?_
  rcases h with rfl | ⟨i,_,rfl⟩
  ·rfl
  ·exact zaa _ _
variable {Q:AX→St→Prop}
end
end Go.Abs
