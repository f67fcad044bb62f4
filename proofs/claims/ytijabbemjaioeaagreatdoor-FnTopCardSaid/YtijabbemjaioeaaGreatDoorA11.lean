/- DERIVED by an AI agent. -/
import Derived.Test.YtijabbemjaioeaaGreatDoorA10
set_option linter.all false
namespace Go.Abs
open Bool renaming true→k0,false→l0
open Option renaming some→n0,none→o0
open List renaming range→lc,replicate→ld,getD→lg,length→lh
variable (a:Nat)(b:Nat){m t:Nat}{c:(AX->St->Prop)->St->Prop}{f:List M0}{p:O0}{h:N0}{j:Program}{l:M0}{o:FuncId}{u:St}{w:PV->Prop}{R:S0}{x:gg}{y:TypeId}{z:Prop}{A:Func}{B:Code}
theorem ai{b:Prop}(h:z)(k:b):z/\b:=⟨h,k⟩
theorem a9{b c d e f g h i:Prop}(A:z)(B:b)(C:c)(D:d)(E:e)(F:f)(G:g)(H:h)(I:i):z/\b/\c/\d/\e/\f/\g/\h/\i:=⟨A,B,C,D,E,F,G,H,I⟩
def gp0:=a9 @zr9 @zsa @zsd @zse @Yl @DY @DZ @zfn <| ai @Ym <| ai @Rl <| ai @Yn <| ai @Yo <| ai @zfo <| ai @Yp <| ai @zfp <| @Yq
def gp1:=a9 @Yr @zfq @BK @IC @Ys @Yt @Rr @Rw <| ai @LV <| ai @LW <| ai @IE <| ai @YN <| ai @yr <| ai @yu <| ai @xB <| @tp
def gp2:=a9 @yw @YO @zfF @zk2 @IG @YP @BL @BN <| ai @RF <| ai @IJ <| ai @Ea <| ai @Eb <| ai @zfG <| ai @zfH <| ai @zfI <| @Mh
def gp3:=a9 @RI @RJ @MC @Mw @My @Mx @RL @zfJ <| ai @yy <| ai @RO <| ai @YV <| ai @RR <| ai @ZW <| ai @Tf <| ai @ZX <| @Nl
def gp4:=a9 @IM @YX @Mu @YY @zlg @IP @YZ @BO <| ai @BQ <| ai @Sc <| ai @IR <| ai @Ei <| ai @Ej <| ai @Sd <| ai @zfN <| @Sl
def gp5:=a9 @Sm @Zi @Sn @IY @IZ @yz @RW @zaq <| ai @Tt <| ai @zar <| ai @Tv <| ai @Tu <| ai @zas <| ai @zao <| ai @Tq <| @zat
def gp6:=a9 @Tx @Ty @Nr @zgW @zap @Ts @zfT @So <| ai @zfU <| ai @zlk <| ai @zsk <| ai @MG <| ai @zfV <| ai @El <| ai @Zj <| @Em
def gp7:=a9 @Zk @MH @Jb @zll @zlm @Sr @Su @Zl <| ai @Jc <| ai @Zm <| ai @zfX <| ai @Sw <| ai @Zp <| ai @BR <| ai @Zq <| @zfh
def gp8:=ai @Mg <| ai @IH <| ai @BM <| ai @Mv <| ai @IQ <| @BP
def gp:=a9 @gp0 @gp1 @gp2 @gp3 @gp4 @gp5 @gp6 @gp7 <| @gp8
def gq0:=a9 @zr8 @zkQ @zfi @zfj @zkR @zfk @zfl @cF <| ai @da <| ai @iW <| ai @Vy <| ai @dw <| ai @bZ <| ai @Ad <| ai @Ae <| @KP
def gq1:=a9 @Vz @zfg @VA @KQ @Af @Yi @KR @KS <| ai @Ag <| ai @Ah <| ai @DV <| ai @DW <| ai @DX <| ai @LU <| ai @zkS <| @zkT
def gq2:=a9 @zkU @zkV @zfz @Ru @Yy @Rv @zkY @getElem?_zero <| ai @getElem?_succ <| ai @Rx <| ai @zf9 <| ai @zga <| ai @zgb <| ai @zgc <| ai @zgd <| @zge
def gq3:=a9 @zlr @zpB @ML @zgg @zgh @zgi @zgj @zgk <| ai @zgl <| ai @zgm <| ai @zgn <| ai @Jd <| ai @Je <| ai @Jf <| ai @zls <| @zlt
def gq4:=a9 @Zu @zgo @MM @MO @MN @zlu @zgp @zlv <| ai @zgq <| ai @MP <| ai @MQ <| ai @zsl <| ai @zsm <| ai @zlw <| ai @zlx <| @SC
def gq5:=a9 @SB @zsn @zwi @zsp @zsq @zlz @zsr @zss <| ai @zst <| ai @zsu <| ai @zgu <| ai @List.drop_succ_cons.{0} <| ai @List.drop_zero.{0} <| ai @List.take_succ_cons.{0} <| ai @List.take_zero.{0} <| @SD
def gq6:=a9 @Zw @Zx @wy @SE @Zz @Jg @SG @SH <| ai @ZA <| ai @SJ <| ai @SK <| ai @ZC <| ai @zlC <| ai @ZD <| ai @zfa <| @Vx
def gq7:=a9 @MV @MX @zgy @MZ @zj4 @SN @SO @Na <| ai @Nb <| ai @zlE <| ai @zgz <| ai @ZL <| ai @Ji <| ai @Jj <| ai @ZN <| @SU
def gq8:=a9 @SS @Nc @Nd @Nh @ZM @SR @zlF @Nf <| ai @List.length_cons.{0} <| ai @List.length_nil.{0} <| ai @List.not_mem_nil.{0} <| ai @List.mem_cons.{0} <| ai @or_false <| ai @SX <| ai @ZQ <| @Mm
def gq9:=a9 @ZR @ZS @Ni @zgD @zsv @zgL @Cs @rU <| ai @Er <| ai @Tj <| ai @Tk <| ai @Tl <| ai @Tm <| ai @zgM <| ai @zad <| @zgN
def zuX:=a9 @zae @Tn @zlH @zlI @zaf @zag @zah @To <| ai @Jk <| ai @zai <| ai @zgO <| ai @zgP <| ai @zak <| ai @zal <| ai @Jo <| @Jn
def zuY:=a9 @RG @Mi @zfK @YU @zk3 @YQ @YR @zfL <| ai @RQ <| ai @RP <| ai @Me <| ai @dB <| ai @zfC <| ai @cN <| ai @Re <| @bU
def zuZ:=a9 @Rf @Rh @LQ @zkF @zkG @zkH @zkI @zkJ <| ai @zkK <| ai @zfd <| ai @zkL <| ai @zkE <| ai @zkM <| ai @mG <| ai @wv <| @zff
def zu0:=a9 @Yh @LS @Ri @List.map_nil.{0,0} @List.map_cons.{0,0} @List.append_nil.{0} @List.nil_append.{0} @List.cons_append.{0} <| ai @List.getElem?_cons_zero.{0} <| ai @List.getElem?_cons_succ.{0} <| ai @ne_eq.{1} <| ai @not_false_eq_true <| ai @not_true_eq_false <| ai @true_and <| ai @and_true <| @false_and
def zu1:=a9 @and_false @and_self @true_implies @Bool.not_true @Bool.not_false @eq_self.{1} @Bool.true_eq_false @Bool.false_eq_true <| ai @false_implies <| ai @implies_true.{0} <| ai @implies_true.{1} <| ai @zgK <| ai @Int.le_refl <| ai @Nat.le_refl <| ai @Int.toNat_natCast <| @Int.natCast_nonneg
def zu2:=a9 @Int.ofNat_lt @Int.ofNat_le @PV.v.injEq @Value.bool.injEq @Value.int.injEq @Value.string.injEq @List.nodup_nil.{0} @Td <| ai @Te <| ai @beq_self_eq_true.{0} <| ai @decide_eq_true_eq <| ai @decide_eq_false_iff_not <| ai @YW <| ai @RS <| ai @IL <| @Mq
def zu3:=a9 @IK @RT @Mr @RU @zlf @YS @RH @Ev <| ai @Ew <| ai @zgQ <| ai @zgR <| ai @zgS <| ai @zgT <| ai @KY <| ai @La <| @ZY
def zu4:=a9 @ZZ @Tg @zab @zac @Nn @RM @Mn @RN <| ai @Mp <| ai @if_true.{1} <| ai @if_false.{1} <| ai @Nat.zero_le <| ai @Bool.true_and <| ai @Bool.and_true <| ai @Bool.and_self <| @KU
def zu5:=a9 @KV @KW @VC @Ee @Ef @Eh @Aj @Ak <| ai @Rp <| ai @zsi <| ai @zsj <| ai @Yz <| ai @zkZ <| ai @zfA <| ai @Ry <| @YD
def zu6:=a9 @YE @zfB @YF @zk0 @YH @YJ @zk1 @zfD <| ai @YK <| ai @LX <| ai @LZ <| ai @zfE <| ai @YL <| ai @zjB <| ai @ZP <| @zkW
def zu7:=a9 @zfr @zfs @Yv @Yw @Rq @zft @Yx @zfu <| ai @zfv <| ai @zfw <| ai @zfx <| ai @zfy <| ai @Bool.or_false <| ai @Bool.false_or <| ai @Bool.or_self <| @Bool.or_true
def zu8:=a9 @Bool.true_or @Bool.false_and @Bool.and_false @ZG @ZI @zgw @MY @zgx <| ai @zlD <| ai @ZJ <| ai @Jh <| ai @SM <| ai @SZ <| ai @Ta <| ai @zgG <| @zgI
def zu9:=a9 @ZV @zaj @Jl @zlh @zfO @Zc @MA @MB <| ai @IT <| ai @IS <| ai @Ze <| ai @zfR <| ai @Zg <| ai @Sg <| ai @zli <| @Zh
def zva:=a9 @IU @IX @Si @Sj @Sk @MF @uw @zpC <| ai @bP <| ai @Ap <| ai @mj <| ai @oy <| ai @GQ <| ai @ux <| ai @qx <| @uy
def zvb:=a9 @rV @List.length_set.{0} @List.length_range @As @RE @Jq @zcV @Aw <| ai @Ax <| ai @tx <| ai @gf <| ai @zfZ <| ai @zf0 <| ai @Zs <| ai @zf2 <| @zf4
def zvc:=ai @MK <| ai @Sy <| ai @zf8 <| ai @Zv <| ai @MS <| ai @zgr <| @Sz
def gq:=a9 @gq0 @gq1 @gq2 @gq3 @gq4 @gq5 @gq6 @gq7 <| a9 @gq8 @gq9 @zuX @zuY @zuZ @zu0 @zu1 @zu2 <| a9 @zu3 @zu4 @zu5 @zu6 @zu7 @zu8 @zu9 @zva <| ai @zvb <| @zvc
def gr0:=a9 @cF @da @iW @Vy @dw @bZ @Ad @Ae <| ai @KP <| ai @DW <| ai @DX <| ai @rU <| ai @Er <| ai @KR <| ai @KS <| @Ag
def gr1:=a9 @Ah @DV @Vz @VA @KQ @Af @ne_eq.{1} @not_false_eq_true <| ai @not_true_eq_false <| ai @List.mem_cons.{0} <| ai @List.not_mem_nil.{0} <| ai @or_false <| ai @if_true.{1} <| ai @if_false.{1} <| ai @Ev <| @Ew
def gr2:=a9 @zgQ @zgR @KY @La @List.nil_append.{0} @List.cons_append.{0} @List.append_nil.{0} @KU <| ai @KV <| ai @KW <| ai @VC <| ai @Ee <| ai @Ef <| ai @Eh <| ai @Aj <| @Ak
def gr3:=a9 @zpC @bP @Ap @mj @oy @ux @qx @uy <| ai @rV <| ai @List.length_set.{0} <| ai @List.length_range <| ai @As <| ai @gf <| ai @Aw <| ai @Ax <| @tx
def gr:=ai @gr0 <| ai @gr1 <| ai @gr2 <| @gr3
def oQ(k n i:Nat):M0:=(lc n).map λt=>if t<i then .own (dq k t) 1 else .v (.slice o0 0 0)
theorem Ub:ld b (PV.v (.slice o0 0 0))=oQ a b 0:=by refine bE (by simp[oQ]) λt n k=>by simp[oQ]
theorem ik(i:Nat):lh (oQ a b i)=b:=by simp[oQ]
theorem za1:oQ a b b=cy a (lc b):=by
 refine bE (by simp[oQ,cy]) λt n k=>?_;have:=by simpa[oQ]using n
 simp[oQ,cy,this]
theorem za2[aw]{i d v:Nat}(h:i<t):lh (oQ m t (i+1))=(nt (oQ m t i) i [.own d v]).length /\
 ∀n (a:n<lh (nt (oQ m t i) i [PV.own d v])) (b:n<lh (oQ m t (i+1))),(oQ m t (i+1))[n]=(nt (oQ m t i) i [PV.own d v])[n]\/((nt (oQ m t i) i [PV.own d v])[n]=.own d v/\(oQ m t (i+1))[n]=.own (dq m i) 1):=by
 rw[zpQ<|by rwa[ik]]
 simp[oQ];grind
section
variable {P:Program}{T:gg}{s:St}
theorem Wk.tab[aw]{k v e:Nat}{c:M0}(hk:s.rw k=⟨v,.sli e 1 l0 c⟩)(hc:plain c):Wk s (s.row k ⟨v,.tab e c⟩):=by
 intro G a w ⟨E,hs⟩;have hR:E.R k=⟨v,.sli e 1 l0 c⟩:=by rw[hs.rw];exact hk
 have ht:OneTurn E w w k ⟨v,.tab e c⟩ (E.rm k) (E.rv k) :=
  ⟨λ_ _ _=>rfl,λb hb _=>.inr ⟨hb,by rw[hR];rfl,λ_=>by rw[hR];rfl⟩,by rw[hR];exact ab _,
   λ_ _=>⟨by rw[hR];rfl,rfl⟩,λ_ _=>⟨by rw[hR];rfl,rfl⟩,λ_=>by have:=hs.wok.pos k (by rw[hR];rfl);rw[hR]at this;exact this,ab _,rfl,rfl,⟨rfl,λ_=>by first|exact ab _|exact cK _⟩⟩
 have hturn:=ht.turn (fz:=[]) hs.wok;have hrows:=ht.rows (fz:=[]) hs.wok (λj hj=>by cases hj) (λhl=>by
  have hrow:=hs.wok.rows k;unfold cn at hrow ⊢;rw[hR]at hrow;simp only[Env.turn,aT];rcases hrow with h|⟨b,n,cap,vs,rest,h1,h2,h3,h4,h5,h6,h7,h8,h9⟩
  exact .inl h;exact .inr ⟨b,n,cap,vs,rest,h1,h2,h3,h4,om,h6,h7,om,oz hc h9⟩)
 have:=hturn.sim hs hrows;refine⟨E.turn [] k ⟨v,.tab e c⟩ (E.rm k) (E.rv k),?_⟩;have e:({ s with rw:=(E.turn [] k ⟨v,.tab e c⟩ (E.rm k) (E.rv k)).R }:St)=s.row k ⟨v,.tab e c⟩:=by have hf:oL E.R []=E.R:=uI E.R;simp only[Env.turn,hf,hs.rw];rfl
 rw[e]at this;exact this
theorem Wk.ren[aw]{d k k' v vk e et sz:Nat}{c cs cs':M0}(hd:s.rw d=⟨v,.sli e sz l0 c⟩)(hk:s.rw k=⟨vk,.tab et cs⟩)(hk':s.rw k'=⟨0,.dead⟩)(hdl:d<lent)(hcs:lh cs'=lh cs/\∀i(a:i<lh cs)(b:i<lh cs'),cs'[i]=cs[i]\/(cs[i]=.own d v/\cs'[i]=.own k' 1)) :
 Wk s (((s.row d ⟨v+1,.dead⟩).row k' ⟨1,.sli e sz l0 c⟩).row k ⟨vk,.tab et cs'⟩):=by
 intro G a w ⟨E,hs⟩
 have hRd:E.R d=⟨v,.sli e sz l0 c⟩:=by rw[hs.rw];exact hd
 have hRk:E.R k=⟨vk,.tab et cs⟩:=by rw[hs.rw];exact hk
 have hRk':E.R k'=⟨0,.dead⟩:=by rw[hs.rw];exact hk'
 have ndk:d≠k:=λe=>by rw[e,hRk]at hRd;cases hRd
 have ndk':d≠k':=λe=>by rw[e,hRk']at hRd;cases hRd
 have nkk':k≠k':=λe=>by rw[e,hRk']at hRk;cases hRk
 let R':S0:=fM (fM (fM E.R d ⟨v+1,.dead⟩) k' ⟨1,.sli e sz l0 c⟩) k ⟨vk,.tab et cs'⟩
 let rm':Nat->Option Nat:=fM (fM E.rm d o0) k' (E.rm d)
 let rv':Nat->Value:=fM E.rv k' (E.rv d)
 let E':Env:={ R:=R',rm:=rm',rv:=rv',L:=Lf E.X R' rm',B:=E.B,X:=E.X }
 have Rk:E'.R k=⟨vk,.tab et cs'⟩:=aT _ _ _
 have Rk':E'.R k'=⟨1,.sli e sz l0 c⟩:=by show R' k'=_;simp only[R'];rw[bu _ _ (Ne.symm nkk'),aT]
 have Rd:E'.R d=⟨v+1,.dead⟩:=by show R' d=_;simp only[R'];rw[bu _ _ ndk,bu _ _ ndk',aT]
 have Ro:∀j,j≠d->j≠k->j≠k'->E'.R j=E.R j:=λj h1 h2 h3=>by show R' j=_;simp only[R'];rw[bu _ _ h2,bu _ _ h3,bu _ _ h1]
 have Mk':E'.rm k'=E.rm d:=aT _ _ _
 have Md:E'.rm d=none:=by show rm' d=_;simp only[rm'];rw[bu _ _ ndk',aT]
 have Mo:∀j,j≠d->j≠k'->E'.rm j=E.rm j:=λj h1 h3=>by show rm' j=_;simp only[rm'];rw[bu _ _ h3,bu _ _ h1]
 have Vk':E'.rv k'=E.rv d:=aT _ _ _
 have Vo:∀j,j≠k'->E'.rv j=E.rv j:=λj h=>bu _ _ h
 have hL:∀b,E'.L b↔E.L b:=by
  intro b;rw[hs.wok.live];constructor
  ·rintro(⟨j,h1,h2⟩|hX);rotate_left
   ·exact .inr hX
   refine .inl ?_;have h1:E'.rm j=n0 b:=h1;have h2:(E'.R j).kind.live=true:=h2;by_cases jk':j=k'
   ·subst jk';rw[Mk']at h1;exact⟨d,h1,by rw[hRd];rfl⟩
   ·by_cases jd:j=d
    ·subst jd;rw[Md]at h1;cases h1
    ·rw[Mo j jd jk']at h1;by_cases jk:j=k
     ·subst jk;exact⟨j,h1,by rw[hRk];rfl⟩
     ·rw[Ro j jd jk jk']at h2;exact⟨j,h1,h2⟩
  ·rintro(⟨j,h1,h2⟩|hX);rotate_left
   ·exact .inr hX
   refine .inl ?_;by_cases jk':j=k'
   ·subst jk';rw[hRk']at h2;cases h2
   ·by_cases jd:j=d
    ·subst jd;exact⟨k',by show E'.rm k'=n0 b;rw[Mk'];exact h1,by show(E'.R k').kind.live=k0;rw[Rk'];rfl⟩
    ·by_cases jk:j=k
     ·subst jk;exact⟨j,by show E'.rm j=n0 b;rw[Mo j jd jk'];exact h1,by show(E'.R j).kind.live=k0;rw[Rk];rfl⟩
     ·exact⟨j,by show E'.rm j=n0 b;rw[Mo j jd jk'];exact h1,by show(E'.R j).kind.live=k0;rw[Ro j jd jk jk'];exact h2⟩
 have hl:Lasts w w E E':=by
  refine⟨λb _ h=>⟨rfl,λh'=>h ((hL b).1 h')⟩,λj=>?_,λj he hs'=>?_,λj he hs'=>?_,ab _⟩
  all_goals
   by_cases jk':j=k'
   ·subst jk'
    first
     | (rw[hRk'];exact aB _)
     | (rw[Rk',hRk']at he;cases he)
   ·by_cases jd:j=d
    ·subst jd
     first
      | (rw[Rd,hRd];exact cK _)
      | (rw[Rd]at hs';cases hs')
    ·by_cases jk:j=k
     ·subst jk
      first
       | (rw[Rk,hRk];exact ab _)
       | exact⟨by rw[hRk];rfl,Vo j jk'⟩
       | exact⟨by rw[hRk];rfl,Mo j jd jk'⟩
     ·first
       | (rw[Ro j jd jk jk'];exact ab _)
       | (rw[Ro j jd jk jk']at hs';exact⟨hs',Vo j jk'⟩)
       | (rw[Ro j jd jk jk']at hs';exact⟨hs',Mo j jd jk'⟩)
 have hwok:WOk G E' w:=by
  refine⟨λj=>?_,λj j' b n1 n2 e1 e2=>?_,λb=>mV,λj hn=>?_,hs.wok.base,hs.wok.xs,hs.wok.fx,λj b hn hb=>?_,hs.wok.kept,λj=>?_⟩
  ·by_cases jk':j=k'
   ·subst jk';have hrow:=hs.wok.rows d;unfold cn at hrow ⊢;rw[hRd]at hrow;rw[Rk',Mk',Vk'];rcases hrow with h|⟨b,n,cap,vs,rest,h1,h2,h3,h4,h5,h6,h7,h8,h9⟩
    ·exact .inl h
    ·refine .inr ⟨b,n,cap,vs,rest,h1,?_,h3,h4,h5,h6,h7,h8,h9.mono hl.bare (ab _)⟩;rcases h2 with h2|h2
     ·exact .inl h2
     ·exact absurd h2.1 om
   ·by_cases jd:j=d
    ·subst jd;unfold cn;rw[Rd];trivial
    ·by_cases jk:j=k
     ·subst jk;have hrow:=hs.wok.rows j;unfold cn at hrow ⊢;rw[hRk]at hrow;rw[Rk,Mo j jd jk',Vo j jk'];rcases hrow with⟨g1,g2,g3⟩|⟨b,n,cap,vs,rest,h1,h2,h3,h4,h5,h6,h7,h8,h9⟩
      ·refine .inl ⟨g1,g2,aL (by rw[hcs.1,g3];rfl)⟩
      ·refine .inr ⟨b,n,cap,vs,rest,h1,h2,h3,h4,h5,h6,h7,h8,by rw[hcs.1];exact h9.1,λi a' b'=>?_⟩;have ha:i<lh cs:=by rw[<- hcs.1];exact a'
       have h0:=h9.2 i ha b';rcases hcs.2 i ha a' with he|⟨he1,he2⟩
       ·rw[he];exact h0.mono hl (ab _)
       ·rw[he1]at h0;rw[he2];cases h0 with
        | own hv hx =>refine .own (by rw[Rk'];exact ab _) λ_ _=>?_;rw[Vk'];exact hx (by rw[hRd]) (by rw[hRd];rfl)
     ·have hrow:=hs.wok.rows j;unfold cn at hrow ⊢;rw[Ro j jd jk jk',Mo j jd jk',Vo j jk'];cases hkd:(E.R j).kind with
      | mp f=>simpa only[hkd]using hrow
      | dead=>trivial
      | nil=>simpa only[hkd]using hrow
      | box t cells =>simp only[hkd]at hrow ⊢;have⟨b,vs,h1,h2,h3,h4⟩:=hrow;exact⟨b,vs,h1,h2,h3,h4.mono hl (ab _)⟩
      | sli e sz fz cells =>
        simp only[hkd]at hrow ⊢;rcases hrow with h|⟨b,n,cap,vs,rest,h1,h2,h3,h4,h5,h6,h7,h8,h9⟩
        ·exact .inl h
        ·exact .inr ⟨b,n,cap,vs,rest,h1,h2,h3,h4,h5,h6,h7,h8,h9.mono hl.bare (ab _)⟩
      | tab e cells =>
        simp only[hkd]at hrow ⊢;rcases hrow with h|⟨b,n,cap,vs,rest,h1,h2,h3,h4,h5,h6,h7,h8,h9⟩
        ·exact .inl h
        ·exact .inr ⟨b,n,cap,vs,rest,h1,h2,h3,h4,h5,h6,h7,h8,h9.mono hl (ab _)⟩
  ·
   have back:∀j b,(E'.R j).kind.nd=k0->E'.rm j=n0 b->(if j=k' then d else j)=(if j=k' then d else j)/\(E.R (if j=k' then d else j)).kind.nd=k0/\E.rm (if j=k' then d else j)=n0 b/\j≠d:=by
    intro j b hn hm;by_cases jk':j=k'
    ·subst jk';rw[ae rfl];rw[Mk']at hm;exact⟨rfl,by rw[hRd];rfl,hm,Ne.symm ndk'⟩
    ·rw[ac jk'];have jd:j≠d:=λe=>by subst e;rw[Md]at hm;cases hm
     rw[Mo j jd jk']at hm;refine⟨rfl,?_,hm,jd⟩;by_cases jk:j=k
     ·subst jk;rw[hRk];rfl
     ·rw[<- Ro j jd jk jk'];exact hn
   have⟨_,a1,a2,a3⟩:=back j b n1 e1;have⟨_,b1,b2,b3⟩:=back j' b n2 e2;have:=hs.wok.inj _ _ b a1 b1 a2 b2;by_cases jk:j=k'
   ·by_cases jk2:j'=k'
    ·rw[jk,jk2]
    ·rw[ae jk,ac jk2]at this;exact absurd this.symm b3
   ·by_cases jk2:j'=k'
    ·rw[ac jk,ae jk2]at this;exact absurd this a3
    ·rw[ac jk,ac jk2]at this;exact this
  ·by_cases jk':j=k'
   ·subst jk';rw[Rk'];exact Nat.one_pos
   ·by_cases jd:j=d
    ·subst jd;rw[Rd];exact jG _
    ·by_cases jk:j=k
     ·subst jk;rw[Rk];have:=hs.wok.pos j (by rw[hRk];rfl);rw[hRk]at this;exact this
     ·rw[Ro j jd jk jk']at hn ⊢;exact hs.wok.pos j hn
  ·by_cases jk':j=k'
   ·subst jk';rw[Mk']at hb;exact hs.wok.apart d b (by rw[hRd];rfl) hb
   ·by_cases jd:j=d
    ·subst jd;rw[Md]at hb;cases hb
    ·rw[Mo j jd jk']at hb;by_cases jk:j=k
     ·subst jk;exact hs.wok.apart j b (by rw[hRk];rfl) hb
     ·rw[Ro j jd jk jk']at hn;exact hs.wok.apart j b hn hb
  ·have⟨p1,p2⟩:=hs.wok.pin j;by_cases jk':j=k'
   ·subst jk';rw[hRk']at p1;have p1:(G.pR j).ver=0:=Nat.le_zero.1 p1;rw[Rk'];exact⟨by rw[p1];exact aB _,λh=>by rw[p1]at h;cases h⟩
   ·by_cases jd:j=d
    ·subst jd;rw[Rd];rw[hRd]at p1;exact⟨po p1,λh h'=>by cases h'⟩
    ·by_cases jk:j=k
     ·subst jk;rw[Rk,Mo j jd jk',Vo j jk'];rw[hRk]at p1 p2;exact⟨p1,λh _=>p2 h rfl⟩
     ·rw[Ro j jd jk jk',Mo j jd jk',Vo j jk'];exact⟨p1,p2⟩
 refine⟨E',?_,hwok,hs.size,hs.defers,λi=>(hs.slots i).mono hl (ab _)⟩
 show R'=_
 simp only[R',hs.rw]
 rfl
end
section
variable {Q:AX->St->Prop}{s:St}
theorem zg5[aw]{a:Type}(I:a->St->Prop)(b:a->Nat)(e:a)(g:Wk s u){d:Dm c}{v:Dm Q}(i:I e u)(h:∀x f,I x f->c (AX.seq (np I b (b x)) Q) f):uA (kk c d) (kk Q v) s :=
 ⟨a,I,b,⟨e,u,g,i⟩,h⟩
theorem Fc[aw]{a:Type}{I:a->St->Prop}{d:a->Nat}(b:a)(e:Wk s u)(h:I b u)(f:d b<m:=by first|omega|(simp only;omega)|(dsimp only;omega)|(show _<_;simp;omega)):np I d m s:=⟨b,u,e,h,f⟩
theorem NX:plain (ld a (.v (.slice o0 0 0))):=λp n=>by rw[(List.mem_replicate.1 n).2];rfl
end
theorem Hr{rw:S0}:∀(p:O0) (c:List M0) (K:O0->Prop),lh c=lh p ->
 (∀i(a:i<lh p)(b:i<lh c),dq t p[i]<lent/\rw (dq t p[i])=⟨1,.sli m 1 l0 c[i]⟩)->K (p.map (dq t))->Nu rw m (cy t p) c K:=by
 intro p
 induction p with
 | nil=>intro c K h _ d;cases c with|nil=>exact d|cons r f=>grind
 | cons j p k =>
   intro c K h g d
   cases c with
   | nil=>grind
   | cons r f =>
     have l:=g 0 sp sp
     exact⟨l.1,l.2,k f _ (ss h) (λi a b=>g (i+1) (ss a)<|ss b) d⟩
theorem zmc[aw]{rw:S0}{k v e c n:Nat}(m:k<1000)(s:n<=998)(o:rw k=⟨v,.tab e (cy k (lc n))⟩)(p:lh f=n)(d:∀j,j<n->rw (dq k j)=⟨1,.sli c 1 l0 (lg f j [])⟩):uz rw (.own k v) (.tb e c f) List.Nodup:=by
 have g:k<lent:=by unfold lent;omega
 show qP rw (.own k v) (.tb e c f) _
 simp only[qP,o]
 refine⟨g,trivial,trivial,Hr _ f _ (ss p) (λi a b=>?_) ?_⟩
 have q:=ss a
 simp;refine⟨yF m om,?_⟩;grind
 refine List.nodup_cons.2 ⟨λh=>?_,?_⟩
 grind
 refine List.Pairwise.map _ (λa b l=>?_) dC;rwa[Ne,tx]
abbrev fG:=List N0
structure TabI (rw:Nat->Row) (k v e e2:Nat) (q:List Nat) (M:fG):Prop where
 is:TabIs rw k v e e2 q (M.map iL)
 nd:q.Nodup
theorem ko(M:fG)(i:Nat):lg (M.map iL) i []=iL (lg M i []):=by by_cases h:i<lh M;grind;simp[h,iL]
section
variable {rw rw':S0}{k v e e2:Nat}{q:O0}{M:fG}
theorem TabI.len(h:TabI rw k v e e2 q M):lh q=lh M:=by simp[h.is.len]
theorem TabI.top(h:TabI rw k v e e2 q M):rw k=⟨v,.tab e (cy k q)⟩:=h.is.top
theorem TabI.row[aw](h:TabI rw k v e e2 q M){i:Nat}(a:i<lh M):rw (dq k (lg q i 0))=⟨1,.sli e2 1 l0 (iL (lg M i []))⟩:=by rw[h.is.row i<|by rwa[h.len],ko]
theorem TabI.ne[aw](h:TabI rw k v e e2 q M)(d:m<lh M)(f:t<lh M)(c:m≠t):¬dq k (lg q m 0)=dq k (lg q t 0):=λe=>by
 have a:m<lh q:=by rwa[h.len]
 have b:t<lh q:=by rwa[h.len]
 have g:lg q m 0=q[m]:=by grind
 have l:lg q t 0=q[t]:=by grind
 have:=iZ e;rw[g,l]at this;exact c<|(gd h.nd).1 this
theorem TabI.same[aw](h:TabI rw k v e e2 q M)(a:rw' k=rw k)(b:∀x,rw' (dq k x)=rw (dq k x)):TabI rw' k v e e2 q M :=
 ⟨⟨a.trans h.top,h.is.len,λi c=>(b _).trans<|h.is.row i c⟩,h.nd⟩
theorem TabI.to(h:TabI rw k v e e2 q M){a:fG}(b:M=a):TabI rw k v e e2 q a:=b ▸ h
theorem TabI.set[aw](r:TabI rw k v e e2 q M){i:Nat}(b:i<lh M)(c:rw' k=rw k)(d:rw' (dq k (lg q i 0))=⟨1,.sli e2 1 l0 (iL h)⟩)(f:∀x,¬dq k x=dq k (lg q i 0)->rw' (dq k x)=rw (dq k x)):TabI rw' k v e e2 q (M.set i h):=by
 refine⟨⟨c.trans r.top,by simp[r.len],λj g=>?_⟩,r.nd⟩
 have a:j<lh M:=by rwa[<- r.len]
 rw[ko]
 by_cases e:j=i
 grind
 have:lg (M.set i h) j []=lg M j []:=by grind
 rw[f _<|r.ne a b e,r.row a,this]
theorem TabI.swap[aw](h:TabI rw k v e e2 q M){a b:Nat}(p:a<lh M)(r:b<lh M)(t:rw' k=⟨v,.tab e (cy k ((q.set a (lg q b 0)).set b (lg q a 0)))⟩)(u:∀x,rw' (dq k x)=rw (dq k x)) :
 TabI rw' k v e e2 ((q.set a (lg q b 0)).set b (lg q a 0)) ((M.set a (lg M b [])).set b (lg M a []))/\((q.set a (lg q b 0)).set b (lg q a 0)).Perm q:=by
 have d:a<lh q:=by rw[h.len];exact p
 have f:b<lh q:=by rw[h.len];exact r
 have w:lg q a 0=q[a]:=by simp[lg,d]
 have n:lg q b 0=q[b]:=by simp[lg,f]
 have s:((q.set a<|lg q b 0).set b<|lg q a 0).Perm q:=by rw[w,n];exact pj d f
 refine⟨⟨⟨t,by simp[h.len],λj y=>?_⟩,s.nodup_iff.2 h.nd⟩,s⟩
 have c:j<lh M:=by simpa[h.len]using y
 have g:j<lh q:=by rw[h.len];exact c
 rw[ko,u]
 by_cases i:j=b
 subst i;have l:lg ((q.set a<|lg q j 0).set j<|lg q a 0) j 0=lg q a 0:=by simp[lg,g]
 have m:lg ((M.set a<|lg M j []).set j<|lg M a []) j []=lg M a []:=by simp[lg,c]
 rw[l,m];exact h.row p
 by_cases o:j=a
 subst o;have l:lg ((q.set j<|lg q b 0).set b<|lg q j 0) j 0=lg q b 0:=by simp only[lg];rw[cW<|Ne.symm i,pn g];rfl
 have m:lg ((M.set j<|lg M b []).set b<|lg M j []) j []=lg M b []:=by simp only[lg];rw[cW<|Ne.symm i,pn c];rfl
 rw[l,m];exact h.row r
 have l:lg ((q.set a<|lg q b 0).set b<|lg q a 0) j 0=lg q j 0:=by simp only[lg];rw[cW<|Ne.symm i,cW<|Ne.symm o]
 have m:lg ((M.set a<|lg M b []).set b<|lg M a []) j []=lg M j []:=by simp only[lg];rw[cW<|Ne.symm i,cW<|Ne.symm o]
 rw[l,m];exact h.row c
theorem zmb[aw](M:fG):CC (M.map iL):=λi _=>by rw[ko];exact dJ _
theorem zvs[aw](e e2:Nat)(M:fG):TabI (qM e e2 (M.map iL)) 1000000 1 e e2 (lc (lh M)) M:=by refine⟨?_,dC⟩;have:=@zta e e2<|M.map iL;rw[aG]at this;exact this
end
theorem AT.goI[aw]{rs:List ResultVar}{M g:fG}{res:TR}(k:x.Ok j)(c:j.follows .mixedOrders=k0)(e2:j.funcs[o]?=n0 A)(a:(A.name == "runtime.NumGoroutine")=l0)(n:A.body=n0 B)(e:A.results.toList=rs)(b:(fits A.ntmps B&&decide (lh l<=A.ntmps)&&decide (lh A.results.toList<=4))=k0)(d:lh g=lh M)(h:lh M<=9223372036854775807->∀s:St,(∀i,s.sl i=lg l i .junk)->(∀args,args<1000000->s.rw args=⟨0,.dead⟩)->TabI s.rw 1000000 1 m t (lc (lh M)) M->wC j x B (zpD x rs m t (lh M) (g.map iL) res) s):AT j o l m t (M.map iL) (g.map iL) res:=by
 refine AT.of k c e2 a n b (zmb M) (zmb g) (ss d) λp _=>?_
 have:=h (ss p) (St.initT l m t<|M.map iL) (λ_=>rfl) (λargs q=>VS q)<|zvs m t M
 grind
theorem pT{rw:S0}{n:Nat}{M:fG}(h:TabI rw 1000000 1 m t p M)(a:p.Perm (lc n)):VK rw m t n (M.map iL):=⟨p,h.is,a⟩
structure TabP (rw:Nat->Row) (k v e e2 n i:Nat) (M:fG):Prop where
 top:rw k=⟨v,.tab e (oQ k n i)⟩
 len:M.length=i
 row:∀j,j<i->rw (dq k j)=⟨1,.sli e2 1 false (iL (M.getD j []))⟩
 rest:∀j,i<=j->rw (dq k j)=⟨0,.dead⟩
section
variable {s:St}{rw rw':S0}{k v e e2 n i d vd:Nat}{M:fG}{r:N0}
theorem TabP.init[aw](e2:Nat)(c:s.rw k=⟨v,.sli e 1 l0 (ld n (.v (.slice o0 0 0)))⟩)(d:∀j,s.rw (dq k j)=⟨0,.dead⟩) :
 ∃b,Wk s b/\TabP b.rw k v e e2 n 0 []/\b.sl=s.sl/\∀j,(j%1000==k%1000)=l0->b.rw j=s.rw j:=by
 refine⟨_,Wk.tab c<|NX n,⟨?_,rfl,λj a=>absurd a om,λj _=>?_⟩,rfl,λj a=>?_⟩
 rw[dw,Ub]
 rw[bZ _ _ _ _<|ig k j];grind
 rw[bZ _ _ _ _<|λe=>(beq_eq_false_iff_ne.1 a)<|om]
theorem Ho{M:fG}:lg (M++[h]) m []=if m<M.length then M.getD m []else if m=M.length then h else []:=by grind
theorem TabP.push[aw](u:s.rw k=⟨v,.tab e (nt (oQ k n i) i [.own d vd])⟩)(q:lh M=i)(g:∀j,j<i->s.rw (dq k j)=⟨1,.sli e2 1 l0 (iL (lg M j []))⟩)(a:∀j,i<=j->s.rw (dq k j)=⟨0,.dead⟩)(w:s.rw d=⟨vd,.sli e2 1 l0 (iL r)⟩)(o:d<lent)(p:(d%1000==k%1000)=l0)(x:i<n) :
 ∃m,Wk s m/\TabP m.rw k v e e2 n (i+1) (M++[r])/\m.sl=s.sl/\∀j,(j%1000==k%1000)=l0->(j==d)=l0->m.rw j=s.rw j:=by
 have b:=beq_eq_false_iff_ne.1 p
 have y:d≠k:=λe=>b<|by rw[e]
 have l:∀j,d≠dq k j:=λj e=>b<|by rw[e,gf]
 refine⟨_,Wk.ren (k':=dq k i) (cs':=oQ k n (i+1)) w u (a i<|ab i) o<|za2 x,⟨?_,by simp[q],λj f=>?_,λj f=>?_⟩,rfl,λj f c=>?_⟩
 rw[dw]
 rw[bZ _ _ _ _<|ig k j,Ho,q];by_cases t:j=i
 subst t;rw[dw,ac om,ae rfl]
 rw[bZ _ _ _ _<|λh=>t<|iZ h,bZ _ _ _ _<|Ne.symm<|l j,ae om];exact g j om
 rw[bZ _ _ _ _<|ig k j,bZ _ _ _ _<|λh=>by have:=iZ h;omega,bZ _ _ _ _<|Ne.symm<|l j];exact a j om
 have f:=beq_eq_false_iff_ne.1 f;have c:=beq_eq_false_iff_ne.1 c;rw[bZ _ _ _ _<|λe=>f<|by rw[e],bZ _ _ _ _<|λe=>f<|by rw[e,gf],bZ _ _ _ _ c]
theorem TabP.set(h:TabP rw k v e e2 n i M)(c:m<i)(d:rw' k=rw k)(f:rw' (dq k m)=⟨1,.sli e2 1 l0 (iL r)⟩)(b:∀x,¬x=m->rw' (dq k x)=rw (dq k x)):TabP rw' k v e e2 n i (M.set m r):=by
 refine⟨d.trans h.top,by simp[h.len],λx a=>?_,λx a=>(b x om).trans<|h.rest x a⟩;by_cases e:x=m;subst e;have:lg (M.set x r) x []=r:=by simp[h.len,c]
 grind;have:lg (M.set m r) x []=lg M x []:=by grind
 simp_all[h.row]
theorem TabP.same(h:TabP rw k v e e2 n i M)(c:rw' k=rw k)(b:∀x,rw' (dq k x)=rw (dq k x)):TabP rw' k v e e2 n i M :=
 ⟨c.trans h.top,h.len,λj a=>(b j).trans<|h.row j a,λj a=>(b j).trans<|h.rest j a⟩
theorem TabP.done[aw](h:TabP rw k v e e2 n n M):TabI rw k v e e2 (lc n) M:=by
 refine⟨⟨by rw[h.top,za1],by simp[h.len],λj a=>?_⟩,dC⟩;have b:lg (lc n) j 0=j:=by grind
 rw[b,ko];exact h.row j (ss a)
theorem Fb[aw](k n i:Nat)(e:(x y).k.agg=l0)(f:0<(x y).size):qt x y .asis (oQ k n (i+1)) i w=(i<n/\w (.own (dq k i) 1)):=by
 refine(tt _ 0 _ i (λj=>if j<i+1 then PV.own (dq k j) 1 else .v (.slice o0 0 0)) (λ_=>rfl) e f).trans ?_;grind
theorem uR[aw]{q:O0}(h:TabI rw k v e e2 q M)(l:k<1000)(m:∀j∈q,j<998):uz rw (.own k v) (.tb e e2 (M.map iL)) List.Nodup:=by
 have d:k<lent:=by unfold lent;omega
 show qP rw (.own k v) (.tb e e2<|M.map iL) _;simp only[qP,h.top];refine⟨d,trivial,trivial,Hr q _ _ (by rw[aG,h.len]) (λi a b=>?_) ?_⟩;have c:=ss b;have g:=h.row c;refine⟨yF l<|m _<|bx a,?_⟩;grind;simp_all[fX];refine List.Pairwise.map _ (λa b f=>?_) h.nd;rwa[Ne,tx]
theorem Hp[aw](h:TabI rw k v e e2 p M)(l:k<1000)(m:∀j∈p,j<998){d:O0->Prop}(n:d (k::p.map (dq k))):qP rw (.own k v) (.tb e e2 (M.map iL)) d:=by
 have c:k<lent:=by unfold lent;omega
 simp only[qP,h.top];refine⟨c,trivial,trivial,Hr p _ _ (by rw[aG,h.len]) (λi a b=>?_) n⟩;have g:=h.row (ss b);refine⟨yF l<|m _<|bx a,?_⟩;grind
end
section
variable {Q:AX->St->Prop}{s:St}{k v e e2 n i d vd:Nat}{M:fG}{r:N0}
theorem NV[aw]{b:Type}(l:s.rw k=⟨v,.sli e 1 l0 (ld n (.v (.slice o0 0 0)))⟩)(m:∀j,s.rw (dq k j)=⟨0,.dead⟩)(I:b->St->Prop)(d:b->Nat)(g:b){u:Dm c}{w:Dm Q}(o:∀a,TabP a.rw k v e e2 n 0 []->a.sl=s.sl->(∀j,(j%1000==k%1000)=l0->a.rw j=s.rw j)->I g a)(h:∀x i,I x i->c (AX.seq (np I d (d x)) Q) i):uA (kk c u) (kk Q w) s:=have⟨a,p,q,f,r⟩:=TabP.init e2 l m;⟨b,I,d,⟨g,a,p,o a q f r⟩,h⟩
theorem TZ[aw]{g:Type}(y:s.rw k=⟨v,.tab e (nt (oQ k n i) i [.own d vd])⟩)(z:lh M=i)(f:∀j,j<i->s.rw (dq k j)=⟨1,.sli e2 1 l0 (iL (lg M j []))⟩)(a:∀j,i<=j->s.rw (dq k j)=⟨0,.dead⟩)(A:s.rw d=⟨vd,.sli e2 1 l0 (iL r)⟩)(l:d<lent)(m:(d%1000==k%1000)=l0)(B:i<n)(I:g->St->Prop)(o:g->Nat)(q:g){u:Dm c}{w:Dm Q}(C:∀b,TabP b.rw k v e e2 n (i+1) (M++[r])->b.sl=s.sl->(∀j,(j%1000==k%1000)=l0->(j==d)=l0->b.rw j=s.rw j)->I q b)(h:∀x t,I x t->c (AX.seq (np I o (o x)) Q) t):uA (kk c u) (kk Q w) s:=have⟨b,D,E,p,F⟩:=TabP.push y z f a A l m B;⟨g,I,o,⟨q,b,D,C b E p F⟩,h⟩
theorem zdz[aw]{f:Type}{I:f->St->Prop}{p:f->Nat}(q:s.rw k=⟨v,.tab e (nt (oQ k n i) i [.own d vd])⟩)(t:lh M=i)(c:∀j,j<i->s.rw (dq k j)=⟨1,.sli e2 1 l0 (iL (lg M j []))⟩)(a:∀j,i<=j->s.rw (dq k j)=⟨0,.dead⟩)(u:s.rw d=⟨vd,.sli e2 1 l0 (iL r)⟩)(g:d<lent)(h:(d%1000==k%1000)=l0)(w:i<n)(l:f)(x:∀b,TabP b.rw k v e e2 n (i+1) (M++[r])->b.sl=s.sl->(∀j,(j%1000==k%1000)=l0->(j==d)=l0->b.rw j=s.rw j)->I l b)(y:p l<m):np I p m s:=have⟨b,z,A,o,B⟩:=TabP.push q t c a u g h w;⟨l,b,z,x b A o B,y⟩
theorem Ua[aw]{M:fG}(i:lh M=m):lg (M++[h]) m []=h:=by grind
theorem za0{M:fG}{a:N0}(i:lh M=m):(M++[h]).set m a=M++[a]:=by simp_all
end
section
variable {s:St}
theorem Wk.untab[aw]{k v e:Nat}{c:M0}(hk:s.rw k=⟨v,.tab e c⟩)(hc:plain c):Wk s (s.row k ⟨v,.sli e 1 l0 c⟩):=by
 intro G a w ⟨E,hs⟩;have hR:E.R k=⟨v,.tab e c⟩:=by rw[hs.rw];exact hk
 have ht:OneTurn E w w k ⟨v,.sli e 1 l0 c⟩ (E.rm k) (E.rv k) :=
  ⟨λ_ _ _=>rfl,λb hb _=>.inr ⟨hb,by rw[hR];rfl,λ_=>by rw[hR];rfl⟩,by rw[hR];exact ab _,
   λ_ _=>⟨by rw[hR];rfl,rfl⟩,λ_ _=>⟨by rw[hR];rfl,rfl⟩,λ_=>by have:=hs.wok.pos k (by rw[hR];rfl);rw[hR]at this;exact this,ab _,rfl,rfl,⟨rfl,λ_=>by first|exact ab _|exact cK _⟩⟩
 have hturn:=ht.turn (fz:=[]) hs.wok;have hrows:=ht.rows (fz:=[]) hs.wok (λj hj=>by cases hj) (λhl=>by
  have hrow:=hs.wok.rows k;unfold cn at hrow ⊢;rw[hR]at hrow;simp only[Env.turn,aT];rcases hrow with h|⟨b,n,cap,vs,rest,h1,h2,h3,h4,h5,h6,h7,h8,h9⟩
  exact .inl h;exact .inr ⟨b,n,cap,vs,rest,h1,h2,h3,h4,om,h6,h7,om,oz hc h9⟩)
 have:=hturn.sim hs hrows;refine⟨E.turn [] k ⟨v,.sli e 1 l0 c⟩ (E.rm k) (E.rv k),?_⟩;have e:({ s with rw:=(E.turn [] k ⟨v,.sli e 1 l0 c⟩ (E.rm k) (E.rv k)).R }:St)=s.row k ⟨v,.sli e 1 l0 c⟩:=by have hf:oL E.R []=E.R:=uI E.R;simp only[Env.turn,hf,hs.rw];rfl
 rw[e]at this;exact this
structure TabG (rw:Nat->Row) (k v e e2 n:Nat) (M:fG):Prop where
 top:rw k=⟨v,.tab e (cy k (List.range n))⟩
 len:M.length=n
 row:∀j,j<n->rw (dq k j)=⟨1,.sli e2 1 false (iL (M.getD j []))⟩
 rest:∀j,n<=j->rw (dq k j)=⟨0,.dead⟩
variable {rw rw':S0}{k v e e2 n d vd:Nat}{M:fG}{r:N0}
theorem TabG.same(h:TabG rw k v e e2 n M)(c:rw' k=rw k)(b:∀x,rw' (dq k x)=rw (dq k x)):TabG rw' k v e e2 n M :=
 ⟨c.trans h.top,h.len,λj a=>(b j).trans<|h.row j a,λj a=>(b j).trans<|h.rest j a⟩
theorem TabG.done[aw](h:TabG rw k v e e2 n M):TabI rw k v e e2 (lc n) M:=by
 refine⟨⟨h.top,by simp[h.len],λj a=>?_⟩,dC⟩;have b:lg (lc n) j 0=j:=by grind
 rw[b,ko];exact h.row j (ss a)
theorem TabG.init[aw](e2:Nat)(c:s.rw k=⟨v,.sli e 1 l0 []⟩)(d:∀j,s.rw (dq k j)=⟨0,.dead⟩) :
 ∃b,Wk s b/\TabG b.rw k v e e2 0 []/\b.sl=s.sl/\∀j,(j%1000==k%1000)=l0->b.rw j=s.rw j:=by
 refine⟨_,Wk.tab c (λp f=>by grind),⟨?_,rfl,λj a=>absurd a om,λj _=>?_⟩,rfl,λj a=>?_⟩
 rw[dw];rfl
 rw[bZ _ _ _ _ (ig k j)];grind
 rw[bZ _ _ _ _ (λe=>(beq_eq_false_iff_ne.1 a) om)]
theorem TabG.push[aw](A:s.rw k=⟨v,.tab e (cy k (lc n)++[.own d vd])⟩)(y:lh M=n)(p:∀j,j<n->s.rw (dq k j)=⟨1,.sli e2 1 l0 (iL (lg M j []))⟩)(f:∀j,n<=j->s.rw (dq k j)=⟨0,.dead⟩)(B:s.rw d=⟨vd,.tab e2 (iL r)⟩)(t:d<lent)(u:(d%1000==k%1000)=l0) :
 ∃q,Wk s q/\TabG q.rw k v e e2 (n+1) (M++[r])/\q.sl=s.sl/\∀j,(j%1000==k%1000)=l0->(j==d)=l0->q.rw j=s.rw j:=by
 have m:=beq_eq_false_iff_ne.1 u
 have w:d≠k:=λe=>m<|by rw[e]
 have g:∀j,d≠dq k j:=λj e=>m<|by rw[e,gf]
 have C:Wk s (s.row d ⟨vd,.sli e2 1 l0<|iL r⟩):=Wk.untab B<|dJ r
 have x:lh (cy k<|lc<|n+1)=(cy k (lc n)++[PV.own d vd]).length/\∀i (a:i<lh (cy k (lc n)++[PV.own d vd])) (b:i<lh (cy k<|lc<|n+1)),
  (cy k<|lc<|n+1)[i]=(cy k (lc n)++[PV.own d vd])[i]\/((cy k (lc n)++[PV.own d vd])[i]=.own d vd/\(cy k<|lc<|n+1)[i]=.own (dq k n) 1):=by
  refine⟨by simp[bP],λi a b=>?_⟩
  have E:i<n+1:=by simpa[bP]using b
  by_cases h:i<n
  refine .inl ?_;rw[bM<|by simpa[bP]using h];simp[cy]
  have:i=n:=om;subst this;refine .inr ⟨?_,?_⟩
  rw[fJ<|by simp[bP]];simp[bP]
  simp[cy]
 have D:=Wk.ren (s:=s.row d ⟨vd,.sli e2 1 l0<|iL r⟩) (d:=d) (k:=k) (k':=dq k n) (v:=vd) (vk:=v) (e:=e2) (et:=e) (sz:=1) (c:=iL r) (cs:=cy k (lc n)++[.own d vd]) (cs':=cy k (lc<|n+1))
  (dw _ _ _) (by rw[bZ _ _ _ _<|Ne.symm w];exact A) (by rw[bZ _ _ _ _<|Ne.symm<|g n];exact f n<|ab n) t x
 refine⟨_,C.trans D,⟨?_,by simp[y],λj o=>?_,λj o=>?_⟩,rfl,λj o l=>?_⟩
 rw[dw]
 rw[bZ _ _ _ _<|ig k j,Ho,y];by_cases z:j=n
 subst z;rw[dw,ac om,ae rfl]
 rw[bZ _ _ _ _<|λh=>z<|iZ h,bZ _ _ _ _<|Ne.symm<|g j,bZ _ _ _ _<|Ne.symm<|g j,ae om];exact p j om
 rw[bZ _ _ _ _<|ig k j,bZ _ _ _ _<|λh=>by have:=iZ h;omega,bZ _ _ _ _<|Ne.symm<|g j,bZ _ _ _ _<|Ne.symm<|g j];exact f j om
 have o:=beq_eq_false_iff_ne.1 o;have l:=beq_eq_false_iff_ne.1 l;rw[bZ _ _ _ _<|λe=>o<|by rw[e],bZ _ _ _ _<|λe=>o<|by rw[e,gf],bZ _ _ _ _ l,bZ _ _ _ _ l]
variable {Q:AX->St->Prop}
theorem NW[aw]{b:Type}(l:s.rw k=⟨v,.sli e 1 l0 []⟩)(m:∀j,s.rw (dq k j)=⟨0,.dead⟩)(I:b->St->Prop)(d:b->Nat)(g:b){u:Dm c}{w:Dm Q}(n:∀a,TabG a.rw k v e e2 0 []->a.sl=s.sl->(∀j,(j%1000==k%1000)=l0->a.rw j=s.rw j)->I g a)(h:∀x i,I x i->c (AX.seq (np I d (d x)) Q) i):uA (kk c u) (kk Q w) s:=have⟨a,o,p,f,q⟩:=TabG.init e2 l m;⟨b,I,d,⟨g,a,o,n a p f q⟩,h⟩
theorem zdA[aw]{f:Type}{I:f->St->Prop}{o:f->Nat}(p:s.rw k=⟨v,.tab e (cy k (lc n)++[.own d vd])⟩)(q:lh M=n)(c:∀j,j<n->s.rw (dq k j)=⟨1,.sli e2 1 l0 (iL (lg M j []))⟩)(a:∀j,n<=j->s.rw (dq k j)=⟨0,.dead⟩)(t:s.rw d=⟨vd,.tab e2 (iL r)⟩)(g:d<lent)(h:(d%1000==k%1000)=l0)(i:f)(u:∀b,TabG b.rw k v e e2 (n+1) (M++[r])->b.sl=s.sl->(∀j,(j%1000==k%1000)=l0->(j==d)=l0->b.rw j=s.rw j)->I i b)(w:o i<m):np I o m s:=have⟨b,x,y,l,z⟩:=TabG.push p q c a t g h;⟨i,b,x,u b y l z,w⟩
end
theorem sh[aw]{e e2 i:Nat}(b:p.Nodup)(h:i<lh p):(u.tabbed m t e e2 p f).rw (dq m (lg p i 0))=⟨1,.sli e2 1 l0 (lg f i [])⟩:=yJ b h
theorem Hq[aw](g:p.Nodup)(i:∀j∈p,t≠dq m j)(c:t≠m):(m::p.map (dq m)++[t]).Nodup:=by rw[kE,xW,List.nodup_append];refine⟨λh=>?_,List.Pairwise.map _ (λa b e=>by rwa[Ne,tx]) g,List.nodup_cons.2 ⟨sp,fS⟩,λa l b q=>?_⟩;rcases List.mem_append.1 h with h|h;obtain⟨j,_,f⟩:=List.mem_map.1 h;exact ig m j f;grind;grind
section
variable {s:St}{rw rw':S0}{k v e e2 n d vd:Nat}{M:fG}{r:N0}
theorem TabG.push0[aw](q:s.rw k=⟨v,.tab e (cy k (lc n)++[.own d vd])⟩)(t:lh M=n)(h:∀j,j<n->s.rw (dq k j)=⟨1,.sli e2 1 l0 (iL (lg M j []))⟩)(f:∀j,n<=j->s.rw (dq k j)=⟨0,.dead⟩)(u:s.rw d=⟨vd,.sli e2 1 l0 (iL r)⟩)(m:d<lent)(i:(d%1000==k%1000)=l0) :
 ∃g,Wk s g/\TabG g.rw k v e e2 (n+1) (M++[r])/\g.sl=s.sl/\∀j,(j%1000==k%1000)=l0->(j==d)=l0->g.rw j=s.rw j:=by
 have c:=beq_eq_false_iff_ne.1 i
 have l:∀j,d≠dq k j:=λj e=>c<|by rw[e,gf]
 have⟨g,x,y,z,A⟩:=TabG.push (s:=s.row d _) (v:=v) (e:=e) (e2:=e2) (vd:=vd) (r:=r) (by rwa[bZ _ _ _ _<|Ne.symm λe=>c<|om]) t
  (λj p=>by rw[bZ _ _ _ _<|Ne.symm<|l j];grind) (λj p=>by rw[bZ _ _ _ _<|Ne.symm<|l j];grind) (dw _ _ _) m i
 refine⟨g,(Wk.tab u<|dJ r).trans x,y,z,λj a b=>?_⟩
 simp_all[A,bZ]
theorem tD[aw]{f:Type}{I:f->St->Prop}{o:f->Nat}(p:s.rw k=⟨v,.tab e (cy k (lc n)++[.own d vd])⟩)(q:lh M=n)(c:∀j,j<n->s.rw (dq k j)=⟨1,.sli e2 1 l0 (iL (lg M j []))⟩)(a:∀j,n<=j->s.rw (dq k j)=⟨0,.dead⟩)(t:s.rw d=⟨vd,.sli e2 1 l0 (iL r)⟩)(g:d<lent)(h:(d%1000==k%1000)=l0)(i:f)(u:∀b,TabG b.rw k v e e2 (n+1) (M++[r])->b.sl=s.sl->(∀j,(j%1000==k%1000)=l0->(j==d)=l0->b.rw j=s.rw j)->I i b)(w:o i<m):np I o m s:=have⟨b,x,y,l,z⟩:=TabG.push0 p q c a t g h;⟨i,b,x,u b y l z,w⟩
end
theorem TabI.adopt[aw]{d v e e2 n:Nat}{M:fG}(a:R d=(br u d (.tb e e2 (M.map iL))).rw d)(b:∀x,R (dq d x)=(br u d (.tb e e2 (M.map iL))).rw (dq d x))(h:∀i,i<lh M->(u.rw (dq d i)).ver=0)(c:(u.rw d).ver+1=v)(f:lh M=n) :
 TabI R d v e e2 (lc n) M:=by
 subst c f
 have g:TabI _ d _ e e2 _ M:=⟨by
  have:=Aq d e e2 (M.map iL)<|λi j=>h i<|ss j;rwa [aG]at this,dC⟩
 exact g.same a b
theorem AC.flat[aw](h:AC j o l (.tb m t f)):AC j o l (.fr m 1 (f.map λr=>.sl l0 1 r)):=by
 refine⟨h.1,λw vals S U=>(h.2 w vals S U).mono λen V⟨v,lv,L,M,q,N⟩=>?_⟩;cases q with
 | tbn=>exact⟨_,_,L,M,.nil,by simp[blk]⟩
 | @tb _ _ b n cap _ W O d X Y c Z hm hl h1 h2 a0 u =>
   refine⟨_,[(.slice (n0 ⟨b,0,o0⟩) n cap,n0 b)],L,M,.fr X Y om Z hm om ⟨by simp[h1,c],λi a b'=>?_⟩,by simp[blk]⟩;have hi:i<lh f:=ss a;have Q:=u i hi b' om;simp only[aM];generalize a1:f[i]=ri at *;generalize a2:W[i]=vi at *;generalize z:d[i]'om=li at *;cases Q with
   | nil=>exact qs _ _ _ _ _
   | @fr _ _ p n2 R _ g A B C D F G a3 e2 =>
     have H:p∈blk d:=by simp only[blk,jh];grind
     have I:p≠b:=λm=>(List.nodup_cons.1 N).1<|m ▸ H;have J:w.heap.size<=p:=B;refine .sl (λargs=>lg g args undef) (e2.1.trans D) F G (λargs s=>⟨p,0,rfl,?_,λe=>?_,?_⟩)<|λargs s=>?_;show max w.heap.size _<=p;simp;exact J;rcases e with e|e;have:p<w.heap.size:=e;omega;exact I<|List.mem_singleton.1 e;have k:args<lh g:=by rw[<- e2.1];exact s
     rw[cm,eF C<|by simp;omega];simp[bM k,lg,k];have k:args<lh g:=by rw[<- e2.1];exact s
     have K:lg g args undef=g[args]:=by simp[lg,k]
     rw[K];have h3:=e2.2 args s k;have h4:Rep V (Env.out w.heap.size [b]).bare.bare w.heap.size ri[args] g[args]:=by
      refine Rep.above h3 (λ_=>rfl) (λ_=>rfl) rfl rfl λx a4 e P=>?_;rcases P with P|P
      exact e<|.inl P;exact e<|.inr<|by rw[List.mem_singleton.1 P];exact cU
     refine h4.low ?_;show max w.heap.size _<=w.heap.size;simp
theorem yR{rw:S0}{e e2:Nat}(h:rw m=⟨t,.sli e 1 l0 []⟩)(a:m<1000000):uz rw (.own m t) (.tb e e2 []) List.Nodup:=by show qP rw (.own m t) (.tb e e2 []) _;simp only[qP,h];exact⟨a,trivial,trivial,trivial,trivial,trivial,sp⟩
def ob(k n:Nat)(g:T0):M0:=(lc n).map λj=>.own (dq k j) (g j)
theorem BY(g:T0):lh (ob a b g)=b:=by simp[ob]
structure TabF (rw:Nat->Row) (k v e e2 n:Nat) (g:Nat->Nat) (M:Nat->List Int):Prop where
 top:rw k=⟨v,.tab e (ob k n g)⟩
 row:∀j,j<n->rw (dq k j)=⟨g j,.sli e2 1 false (iL (M j))⟩
section
variable {s:St}{rw rw':S0}{k v e e2 n:Nat}{g:T0}{M:Nat->N0}
theorem TabF.same(h:TabF rw k v e e2 n g M)(a:rw' k=rw k)(b:∀x,rw' (dq k x)=rw (dq k x)):TabF rw' k v e e2 n g M:=⟨a.trans h.top,λj c=>(b j).trans<|h.row j c⟩
theorem TabF.add(h:TabF rw k v e e2 n g M)(s:m<n){r:N0}{d:T0}{f:Nat->N0}(l:rw' k=⟨v,.tab e (nt (ob k n g) m [.own (dq k m) (g m+1)])⟩)(o:rw' (dq k m)=⟨g m+1,.sli e2 1 l0 (iL r)⟩)(p:∀x,¬x=m->rw' (dq k x)=rw (dq k x))(i:∀j,j<n->d j=if j=m then g m+1 else g j)(q:∀j,j<n->f j=if j=m then r else M j):TabF rw' k v e e2 n d f:=by
 refine⟨?_,λj c=>?_⟩
 rw[l];congr 2;show(ob k n g).set m _=_;refine bE (by simp[ob]) λj a b=>?_;simp[ob];grind
 by_cases e:j=m
 grind
 simp_all[p,h.row]
theorem zi0[aw](k n:Nat)(g:T0)(o:Nat)(e:(x y).k.agg=l0)(f:0<(x y).size):qt x y .asis (ob k n g) o w=(o<n/\w (.own (dq k o) (g o))):=by
 refine(tt _ 0 _ o (λj=>.own _<|g j) (λ_=>rfl) e f).trans ?_;grind
theorem TabF.init[aw](e2:Nat)(hk:s.rw k=⟨v,.sli e 1 l0 (ld n (.v (.slice o0 0 0)))⟩)(hd:∀j,s.rw (dq k j)=⟨0,.dead⟩) :
 ∃s',Wk s s'/\TabF s'.rw k v e e2 n (λ_=>1) (λ_=>[])/\s'.sl=s.sl/\∀j,(j%1000==k%1000)=l0->s'.rw j=s.rw j:=by
 let R':(S0)->Nat->Row:=λR j=>if j=k then⟨v,.tab e (ob k n λ_=>1)⟩else if k<j/\(j-k)%1000=0/\(j-k)/1000-1<n then⟨1,.sli e2 1 l0 []⟩else R j
 have Rk:∀R,R' R k=⟨v,.tab e (ob k n λ_=>1)⟩:=λR=>by simp only[R',eW]
 have Rs:∀R j,j<n->R' R (dq k j)=⟨1,.sli e2 1 l0 []⟩:=λR j hj=>by
  have h1:¬dq k j=k:=ig k j;have h2:k<dq k j/\(dq k j-k)%1000=0/\(dq k j-k)/1000-1<n:=by rw[fX];omega
  simp only[R',ac h1,ae h2]
 have Ro:∀R j,¬(j=k\/∃i,i<n/\j=dq k i)->R' R j=R j:=λR j hj=>by have h1:¬j=k:=λh=>hj (.inl h);have h2:¬(k<j/\(j-k)%1000=0/\(j-k)/1000-1<n):=λh=>hj (.inr ⟨_,h.2.2,by rw[fX];omega⟩);simp only[R',ac h1,ac h2]
 refine⟨{ s with rw:=R' s.rw },?_,⟨Rk _,λj hj=>Rs _ j hj⟩,rfl,λj hj=>?_⟩
 intro G a w ⟨E,hs⟩;have hR:E.R k=⟨v,.sli e 1 l0 (ld n (.v (.slice o0 0 0)))⟩:=by rw[hs.rw];exact hk
 have hD:∀j,E.R (dq k j)=⟨0,.dead⟩:=λj=>by rw[hs.rw];exact hd j
 let rm':Nat->Option Nat:=λj=>if j=k then E.rm k else if k<j/\(j-k)%1000=0/\(j-k)/1000-1<n then o0 else E.rm j
 let rv':Nat->Value:=λj=>if j=k then E.rv k else if k<j/\(j-k)%1000=0/\(j-k)/1000-1<n then .slice o0 0 0 else E.rv j
 have Mk:rm' k=E.rm k:=by simp only[rm',eW]
 have Vk:rv' k=E.rv k:=by simp only[rv',eW]
 have cond:∀j,j<n->¬dq k j=k/\(k<dq k j/\(dq k j-k)%1000=0/\(dq k j-k)/1000-1<n):=λj hj=>⟨ig k j,by rw[fX];omega⟩;have Ms:∀j,j<n->rm' (dq k j)=none:=λj hj=>by simp only[rm',ac (cond j hj).1,ae (cond j hj).2]
 have Vs:∀j,j<n->rv' (dq k j)=.slice o0 0 0:=λj hj=>by simp only[rv',ac (cond j hj).1,ae (cond j hj).2]
 have out:∀j,¬(j=k\/∃i,i<n/\j=dq k i)->rm' j=E.rm j/\rv' j=E.rv j:=λj hj=>by have h1:¬j=k:=λh=>hj (.inl h);have h2:¬(k<j/\(j-k)%1000=0/\(j-k)/1000-1<n):=λh=>hj (.inr ⟨_,h.2.2,by rw[fX];omega⟩);simp only[rm',rv',ac h1,ac h2,and_self]
 let E':Env:={ R:=R' E.R,rm:=rm',rv:=rv',L:=Lf E.X (R' E.R) rm',B:=E.B,X:=E.X };have ht:Turn G E E' w w (λj=>j=k\/∃i,i<n/\j=dq k i):=by
  refine⟨rfl,rfl,rfl,λj hj=>⟨Ro _ j hj,(out j hj).1,(out j hj).2⟩,λ_ _ _=>rfl,λj b hj hb hn=>?_,λj hj=>?_,λj hj he hsl=>?_,λj hj he hsl=>?_,λj hj hn=>?_,λj j' b hj hj' h1 h2 e1 e2=>?_,ab _,rfl,rfl,⟨rfl,λ_=>by first|exact ab _|exact cK _⟩⟩;rcases hj with rfl|⟨i,hi,rfl⟩;have hb:rm' j=n0 b:=hb;rw[Mk]at hb;exact .inr ⟨hb,by rw[hR];rfl,λ_=>by rw[hR];rfl⟩;have hb:rm' (dq k i)=n0 b:=hb;rw[Ms i hi]at hb;cases hb;show _<=(R' E.R j).ver;rcases hj with rfl|⟨i,hi,rfl⟩
  rw[Rk,hR];exact ab _;rw[Rs _ i hi,hD];exact aB _;have he:(R' E.R j).ver=(E.R j).ver:=he;rcases hj with rfl|⟨i,hi,rfl⟩
  exact⟨by rw[hR];rfl,Vk⟩;rw[Rs _ i hi,hD]at he;cases he;have he:(R' E.R j).ver=(E.R j).ver:=he;rcases hj with rfl|⟨i,hi,rfl⟩
  exact⟨by rw[hR];rfl,Mk⟩;rw[Rs _ i hi,hD]at he;cases he;show 0<(R' E.R j).ver;rcases hj with rfl|⟨i,hi,rfl⟩
  have:=hs.wok.pos j (by rw[hR];rfl);rw[hR]at this;rw[Rk];exact this;rw[Rs _ i hi];exact Nat.one_pos;have e1:rm' j=n0 b:=e1;have e2:rm' j'=n0 b:=e2;rcases hj with rfl|⟨i,hi,rfl⟩
  rcases hj' with rfl|⟨i',hi',rfl⟩;rfl;rw[Ms i' hi']at e2;cases e2;rw[Ms i hi]at e1;cases e1
 have hrows:∀j,(j=k\/∃i,i<n/\j=dq k i)->cn w E' G.C j:=by
  intro j hj;unfold cn;show match (R' E.R j).kind with|.dead=>True|.nil=>_|.box t cells=>_|.sli e sz _ cells=>_|.tab e cells=>_|.mp f=>_
  rcases hj with rfl|⟨i,hi,rfl⟩;have hrow:=hs.wok.rows j;unfold cn at hrow;rw[hR]at hrow;rw[Rk];show(rm' j=o0/\rv' j=_/\_)\/_;rw[Mk,Vk];rcases hrow with⟨h1,h2,h3⟩|⟨b,m,cap,vs,rest,h1,h2,h3,h4,h5,h6,h7,h8,h9⟩
  refine .inl ⟨h1,h2,?_⟩;have:n=0:=ss (cV lh h3);subst this;rfl;refine .inr ⟨b,m,cap,vs,rest,Mk.trans h1,h2,Vk.trans h3,h4,om,h6,h7,om,by rw[BY,<- h9.1];simp,λi a' b'=>?_⟩;have hi:i<n:=by simpa[ob]using a'
  have h0:=h9.2 i (ss hi) b';have e1:(ob j n λ_=>1)[i]=.own (dq j i) 1:=by simp[ob]
  have hv:vs[i]=.slice o0 0 0:=by simp only[gz]at h0;exact h0.v_eq
  rw[e1,hv];refine .own ?_ λ_ _=>?_;show 1<=(R' E.R (dq j i)).ver;rw[Rs _ i hi];exact ab _;exact(Vs i hi).symm;rw[Rs _ i hi];exact .inl ⟨Ms i hi,Vs i hi,rfl⟩
 have key:SimE G E' ({ s with rw:=R' E.R }:St) a w:=ht.sim hs hrows;rw[hs.rw]at key;exact⟨_,key⟩
 have hj:=beq_eq_false_iff_ne.1 hj;refine Ro _ j λh=>hj ?_;rcases h with rfl|⟨i,_,rfl⟩
 rfl
 exact gf _ _
variable {Q:AX->St->Prop}
theorem zi1[aw]{b:Type}(l:s.rw k=⟨v,.sli e 1 l0 (ld n (.v (.slice o0 0 0)))⟩)(m:∀j,s.rw (dq k j)=⟨0,.dead⟩)(I:b->St->Prop)(d:b->Nat)(g:b){u:Dm c}{w:Dm Q}(o:∀a,TabF a.rw k v e e2 n (λ_=>1) (λ_=>[])->a.sl=s.sl->(∀j,(j%1000==k%1000)=l0->a.rw j=s.rw j)->I g a)(h:∀x i,I x i->c (AX.seq (np I d (d x)) Q) i):uA (kk c u) (kk Q w) s:=have⟨a,p,q,f,r⟩:=TabF.init e2 l m;⟨b,I,d,⟨g,a,p,o a q f r⟩,h⟩
theorem zma{ids:O0}:∀(l:O0) (c:List M0) (K:O0->Prop),lh c=lh l->(∀i(a:i<lh l)(b:i<lh c),dq k l[i]<lent/\rw (dq k l[i])=⟨g l[i],.sli e2 1 l0 c[i]⟩)->K (l.map (dq k)) ->
 Nu rw e2 (l.map λj=>.own (dq k j) (g j)) c K:=by
 intro l
 induction l with
 | nil=>intro c K h _ d;cases c with|nil=>exact d|cons r e=>grind
 | cons j l n =>
   intro c K h f d
   cases c with
   | nil=>grind
   | cons r e =>
     have m:=f 0 sp sp
     exact⟨m.1,m.2,n e _ (ss h) (λi a b=>f (i+1) (ss a)<|ss b) d⟩
theorem zi2[aw](h:TabF rw k v e e2 n g M)(f:k<1000)(p:n<=900):uz rw (.own k v) (.tb e e2 ((lc n).map λj=>iL (M j))) List.Nodup:=by
 have c:k<lent:=by unfold lent;omega
 show qP rw (.own k v) (.tb e e2 _) _;simp only[qP,h.top];refine⟨c,trivial,trivial,zma (ids:=[]) _ _ _ sp (λi a b=>?_) ?_⟩;have l:=ss a;simp[aM];exact⟨yF f om,h.row i l⟩;refine List.nodup_cons.2 ⟨λm=>?_,?_⟩;simp_all[fX];refine List.Pairwise.map _ (λa b d=>?_) dC;rwa[Ne,tx]
end
theorem ztf(h:t<m):lg (lc m) t 0=t:=by grind
structure TabU (rw:Nat->Row) (k v e e2:Nat) (ids:List (Nat×Nat)) (M:fG):Prop where
 top:rw k=⟨v,.tab e (ids.map λx=>.own x.1 x.2)⟩
 len:ids.length=M.length
 row:∀i (h:i<ids.length),rw ids[i].1=⟨ids[i].2,.sli e2 1 false (iL (M.getD i []))⟩
 nd:(k::ids.map (·.1)).Nodup
def Fa(e e2 n:Nat)(a:fG)(R1:S0)(p:PV):Prop :=
 ∃(v:Nat) (ids:List (Nat×Nat)),p=.own lent v/\TabU R1 lent v e e2 ids a/\n<=lh ids/\∀i(_:i<n)(h:i<lh ids),ids[i]=(dq lent i,1)
def AGr[aw](P:Program)(f:FuncId)(args:M0)(e e2:Nat)(M a:fG):Prop:=AG P f args (qM e e2 (M.map iL)) (Fa e e2 (lh M) a)
theorem ztg(h:p.Nodup)(a:m<lh p)(b:t<lh p)(e:p[m]=p[t]):m=t:=(gd h).1 e
section
variable {R1:S0}{k v e e2 n:Nat}{ids:List (Nat×Nat)}{M:fG}
theorem TabU.inj[aw](h:TabU R1 k v e e2 ids M)(a:m<lh ids)(b:t<lh ids)(c:ids[m].1=ids[t].1):m=t :=
 ztg (List.nodup_cons.1 h.nd).2 (ss a) (ss b)<|ss c
theorem TabU.ne(h:TabU R1 k v e e2 ids M)(a:m<lh ids):ids[m].1≠k:=λb =>(List.nodup_cons.1 h.nd).1<|List.mem_map.2 ⟨_,bx a,b⟩
theorem TabG.toU[aw](h:TabG R1 k v e e2 n M):TabU R1 k v e e2 ((lc n).map λj=>(dq k j,1)) M:=by refine⟨by simp[h.top,cy],by simp[h.len],λi g=>?_,?_⟩;simpa using h.row i (ss g);refine List.nodup_cons.2 ⟨λf=>?_,?_⟩;simp[dX]at f;have⟨j,_,l⟩:=f;exact ig k j l;rw[fj];refine List.Pairwise.map _ (λa b d=>?_) dC;exact λe=>d<|iZ e
theorem Qo[aw]{p:PV}(h:TabG R1 lent v e e2 m M)(b:n<=m)(c:p=.own lent v):Fa e e2 n M R1 p :=
 ⟨v,_,c,h.toU,by grind,λi f d=>sp⟩
theorem TY[aw]{p:PV}(h:TabG R1 1000000 v e e2 m M)(b:n<=m)(c:p=.own 1000000 v):Fa e e2 n M R1 p:=Qo h b c
def yb(k n j:Nat):Option Nat:=if j=lent then n0 k else if lent<j/\(j-lent)%1000=0/\(j-lent)/1000-1<n then n0 (dq k ((j-lent)/1000-1))else o0
theorem uP:yb a b lent=n0 a:=rfl
theorem uQ[aw](k:Nat)(h:t<m):yb k m (dq lent t)=n0 (dq k t):=by have⟨a,b,c⟩:=yG t;rw[yb,ac om,ae ⟨a,b,om⟩,c]
theorem pS[aw]{j i:Nat}(h:yb m t j=n0 i):(j=lent/\i=m)\/∃x,x<t/\j=dq lent x/\i=dq m x:=by unfold yb at h;split at h;grind;split at h;rename_i a;cases h;exact .inr ⟨_,a.2.2,by rw[fX];omega,rfl⟩;grind
theorem zdy[aw]{k n v:Nat}{b:l1}(h:(R k).ver=v):GvA (yb k n) b (qM m t f) R (.own 1000000 1) (.own k v) :=
 .own (uP k n) rfl h<|rfl
structure TabH (rw:Nat->Row) (k v e e2 n:Nat) (M:fG):Prop where
 top:rw k=⟨v,.tab e (cy k (List.range n))⟩\/(n=0/\rw k=⟨v,.sli e 1 false []⟩)
 len:M.length=n
 row:∀j,j<n->rw (dq k j)=⟨1,.sli e2 1 false (iL (M.getD j []))⟩
 rest:∀j,n<=j->rw (dq k j)=⟨0,.dead⟩
theorem TabG.toH{rw:S0}(h:TabG rw k v e e2 n M):TabH rw k v e e2 n M:=⟨.inl h.top,h.len,h.row,h.rest⟩
theorem TabH.ver{rw:S0}(h:TabH rw k v e e2 n M):(rw k).ver=v:=by rcases h.top with h|⟨_,h⟩<;>rw[h]
theorem TabH.give[aw]{rw:S0}{Ln:l1}(h:TabH rw k v e e2 (lh M) M)(s:∀j,Ln j->(j%1000==k%1000)=l0):Give (yb k (lh M)) Ln (qM e e2 (M.map iL)) rw:=by
 have a:lh (M.map iL)=lh M:=aG _;have b:∀l:O0,(∀j∈l,j<lh M)->GvL (yb k (lh M)) Ln (qM e e2 (M.map iL)) rw (cy lent l) (cy k l):=by
  intro l;induction l with
  | nil=>intro _;exact .nil
  | cons j l t =>intro c;have f:=c j sp;refine .one (.own (uQ k f) ?_ ?_ ?_) (t λx u=>c x (by simp[u]));rw[lY (om)];rw[h.row j f];rw[lY (om)];rfl
 refine⟨λj c=>?_,λj B i C D f w=>?_,λj i c z n=>?_⟩;rcases yH c with rfl|⟨i,g,rfl⟩;refine⟨ab _,by simp[jj],k,uP _ _,?_⟩;rw[jj,a];rcases h.top with o|⟨A,o⟩
 rw[o];exact⟨rfl,b _ λj c=>List.mem_range.1 c⟩;rw[o];exact⟨rfl,rfl,by rw[A];rfl,rfl⟩;rw[a]at g;refine⟨dY (yG i).1,by rw[lY (om)];simp,_,uQ k g,?_⟩;rw[lY (om),h.row i g,ko];exact⟨rfl,rfl,rfl,dJ _⟩;rcases pS f with⟨p,m⟩|⟨x,_,p,m⟩<;>rcases pS w with⟨q,d⟩|⟨y,_,q,d⟩;rw[p,q];rw[m]at d;exact absurd d.symm (ig k y);rw[m]at d;exact absurd d (ig k x);rw[m]at d;have:=iZ d;grind;have r:=beq_eq_false_iff_ne.1 (s i n);rcases pS z with⟨_,rfl⟩|⟨x,_,_,rfl⟩
 omega;exact r (gf _ _)
end
theorem CI[aw]{K:St->Prop}{U r:M0}{Ka:RV->Prop}{d k v e e2:Nat}{us:Dm u}{f:Dm K}{M Z:fG}(h:AGr j o l e e2 M Z)(Ln:l1)(hl:GvL (yb k (lh M)) Ln (qM e e2 (M.map iL)) u.rw l U)(O:TabH u.rw k v e e2 (lh M) M)(a0:∀args,Ln args->(args%1000==k%1000)=l0)(hk:∀(S:St)(v':Nat),v<=v'->TabG S.rw k v' e e2 (lh Z) Z->S.sl d=.own k v'->(∀t,t≠d->S.sl t=u.sl t)->(∀args,(args%1000==k%1000)=l0->S.rw args=u.rw args)->K S) :
 nn j o r Ka (tS j o r U (n0 d) (kk u us) (kk K f)):=by
 refine KT h _ Ln hl (O.give a0) λR1 p⟨V,ids,hp,m,hn,E⟩=>?_
 subst hp
 have A:lh (M.map iL)=lh M:=aG _
 let s:Nat->Option Nat:=λargs=>if args=lent then n0 k else(ids.findIdx? (λx=>x.1==args)).map (dq k)
 have w:s lent=n0 k:=ae rfl
 have y:∀i(c:i<lh ids),s ids[i].1=n0 (dq k i):=λi c=>by
  have Q:ids.findIdx? (λx=>x.1==ids[i].1)=n0 i:=by rw[gj];refine⟨c,sp,λargs F=>?_⟩;simp only[aK];intro he;have:=m.inj om c he;omega
  show(if ids[i].1=lent then _ else _)=_;rw[ac (m.ne c),Q];rfl
 have g:∀args x,s args=n0 x->(args=lent/\x=k)\/∃i,∃c:i<lh ids,args=ids[i].1/\x=dq k i:=λargs x n=>by
  have n:(if args=lent then n0 k else(ids.findIdx? (λx=>x.1==args)).map (dq k))=n0 x:=n;split at n;cases n;exact .inl ⟨‹_›,rfl⟩;cases Q:ids.findIdx? (λx=>x.1==args)with
  | none=>rw[Q]at n;cases n
  | some i =>rw[Q]at n;cases n;rw[gj]at Q;have⟨c,h1,_⟩:=Q;exact .inr ⟨i,c,(beq_iff_eq.1 h1).symm,rfl⟩
 have z:∀i(c:i<lh ids),i<lh M->ids[i].1=dq lent i:=λi c h=>by rw[E i h c]
 let B:T0:=λargs=>if args=lent then(if V=1 then v else v+1)else 1
 have H:B lent=if V=1 then v else v+1:=ae rfl
 have C:∀i(c:i<lh ids),B ids[i].1=1:=λi c=>ac (m.ne c)
 refine⟨s,B,l0,⟨λargs F=>?_,λargs W x h1 G=>?_,λargs x n D q=>?_,λargs x n D=>?_,λh=>by cases h⟩,λS R=>?_⟩
 rcases yH F with rfl|⟨i,c,rfl⟩
 rw[w,uP]
 rw[A]at c;have P:i<lh ids:=om;rw[uQ k c,<- z i P c,y i P]
 rcases g args x h1 with⟨a1,a2⟩|⟨i,c,a1,a2⟩<;>rcases g W x G with⟨b1,I⟩|⟨i',P,b1,I⟩
 rw[a1,b1]
 rw[a2]at I;exact absurd I.symm (ig k i')
 rw[a2]at I;exact absurd I (ig k i)
 rw[a2]at I;have:=iZ I;subst this;rw[a1,b1]
 rcases g args x n with⟨rfl,rfl⟩|⟨i,c,rfl,rfl⟩
 rw[m.top,jj]at q;have q:V=1:=q;rw[H,ae q,O.ver]
 rw[C i c];have:i<lh M:=by rcases yH D with h|⟨i',P,h⟩;exact absurd h (m.ne c);rw[A]at P;have X:i'<lh ids:=om;rw[<- z i' X P]at h;have:=m.inj c X h;omega
 rw[O.row i this]
 rcases g args x n with⟨rfl,rfl⟩|⟨i,c,rfl,rfl⟩
 have q:=D (by rw[jj];rfl);rw[m.top,jj]at q;have q:¬V=1:=q;rw[H,ac q,O.ver];omega
 rw[C i c];by_cases J:i<lh M
 have G:=E i J c;have q:=D (by rw[G,lY (by rw[A];exact J)];rfl);rw[m.row i c,G,lY (by rw[A];exact J)]at q;exact absurd rfl q
 rw[O.rest i om];exact Nat.one_pos
 have Y:∀x∈ids,∀(i:Nat)(c:i<lh ids),ids[i]=x->ren1 s R1 B l0 (.own x.1 x.2)=.own (dq k i) 1:=λx _ i c he=>by subst he;have:=lH s R1 B l0 ids[i].1 ids[i].2;rw[y i c,m.row i c]at this;simp only[du,C i c]at this;exact this
 have L:(ids.map λx=>PV.own x.1 x.2).map (ren1 s R1 B l0)=cy k (lc (lh Z)):=by refine bE (by simp[cy,m.len]) λi a b=>?_;have c:i<lh ids:=ss a;simp only[aM,cy,bG];exact Y _ (bx c) i c rfl
 refine hk S (B lent) (by rw[H];split<;>omega) ⟨?_,rfl,λargs F=>?_,λargs F=>?_⟩ ?_ (λt a3=>?_) λargs F=>?_
 rw[R.row lent k w,m.top];show(⟨B lent,.tab e _⟩:Row)=_;rw[L]
 have N:args<lh ids:=by rw[m.len];exact F
 rw[R.row _ _ (y args N),m.row args N,C args N];rfl
 rw[R.off _ λW n=>?_]
 exact O.rest args (by rw[<- m.len]at F;omega)
 rcases g W _ n with⟨_,G⟩|⟨i,c,_,G⟩
 exact ig k args G
 have:=iZ G;rw[m.len]at c;omega
 rw[R.sl];show(u.put (n0 d) _).sl d=_;rw[cF];have:=lH s R1 B l0 lent V;rw[w,m.top]at this;simp only[du]at this;exact this
 rw[R.sl,da _ _ _ _ a3]
 have hm:=beq_eq_false_iff_ne.1 F;refine R.off args λW n=>hm ?_;rcases g W _ n with⟨_,rfl⟩|⟨i,c,_,rfl⟩
 rfl
 exact gf _ _
theorem AGr.go[aw]{rs:List ResultVar}{M c:fG}(p:x.Ok j)(q:j.follows .mixedOrders=k0)(r:j.funcs[o]?=n0 A)(d:(A.name == "runtime.NumGoroutine")=l0)(e:A.body=n0 B)(u:A.results.toList=rs)(g:(fits A.ntmps B&&decide (lh l<=A.ntmps)&&decide (lh A.results.toList<=4))=k0)(h:Kb l->lh M<=9223372036854775807->∀s:St,(∀i,s.sl i=lg l i .junk)->(∀fn,fn<1000000->s.rw fn=⟨0,.dead⟩)->TabG s.rw 1000000 1 m t (lh M) M->wC j x B (Qi x rs (Fa m t (lh M) c)) s):AGr j o l m t M c:=by
 have a:lh (M.map iL)=lh M:=aG _
 refine AG.go p q r d e u g λargs n s w b=>h args ?_ s w (λfn k=>?_) ⟨?_,rfl,λfn k=>?_,λfn k=>?_⟩
 have:=n lent;rw[jj]at this;have:lh (cy lent (lc (M.map iL).length))<=9223372036854775807:=this;rwa [bP,bp,a]at this
 rw[b,VS (by unfold lent;exact k)]
 rw[b];have:=jj (e:=m) (e2:=t) (rows:=M.map iL);rw[a]at this;exact this
 rw[b];have:=lY (e:=m) (e2:=t) (rows:=M.map iL) (i:=fn) (by rw[a];exact k);rw[ko]at this;exact this
 rw[b];by_cases f:(qM m t (M.map iL) (dq lent fn)).kind.nd=k0
 rcases yH f with h|⟨i,e2,h⟩
 exact absurd h (ig _ _)
 have:=iZ h;rw[a]at e2;omega
 show qM m t (M.map iL) (dq lent fn)=_;unfold qM at f ⊢;split
 rename_i h;exact absurd h (ig _ _)
 split
 rename_i args n;rw[ac args,ae n]at f;exact absurd rfl f
 rfl
end Go.Abs
