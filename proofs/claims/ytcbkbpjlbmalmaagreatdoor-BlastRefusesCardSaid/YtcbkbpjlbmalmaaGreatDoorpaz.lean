/-
  Cases. (Merged by program out of 8 texts.)
-/
import Derived.Test.YtcbkbpjlbmalmaaGreatDoorpay
import Derived.Test.YtcbkbpjlbmalmaaGreatDoorpav
import Derived.Test.YtcbkbpjlbmalmaaGreatDoorpan
namespace Go.Proofs.YtcbkbpjlbmalmaaGreatDoor
open Go Go.X Go.Y
theorem Afj{m:List (Int×Int)}{G:Int->B.Fn}{j:Int}{h:Int}(e:Ac m j=some h):(h,G j)∈hsM m G:=List.mem_map.2 ⟨(j,h),Nu e,rfl⟩
theorem Xs{m:List (Int×Int)}(hm:mnd m){j:Int}(hj:j∈Bu m):∃h,Ac m j=some h/\(Ac m j).getD 0=h:=by
 have h1:=(L9 m).mem_iff.1 hj;cases e:Ac m j with
 |none=>exact absurd h1 (Nb.1 e)
 |some h=>exact⟨h,rfl,rfl⟩
structure PrS(Hb H:HY)(wb b:Nat)(M0 Mb M:Mn)(L:Ae)(lvb lv:List (Int×Bool))(hsU ctx:List (Int×B.Fn))(Ga Gc:Int->B.Fn)(mp mq:List (Int×Int))(rp rq:Nat)(U:List (Int×Int)->HY->List (Int×B.Fn)->Prop)(ds:List (Int×Int)):Prop where
 k:Wk Hb H wb b M0 Mb M L lvb lv (hsU++(hsM mq Gc++(hsM mp Ga++ctx)))
 u:U ds H hsU
 p:H rp=some (.mp (.int .i64) (.int .i64) mp)
 q:H rq=some (.mp (.int .i64) (.int .i64) mq)
structure DoU(Hb:HY)(wb b:Nat)(M0 Mb:Mn)(L:Ae)(lvb:List (Int×Bool))(Ga Gc:Int->B.Fn)(U:List (Int×Int)->HY->List (Int×B.Fn)->Prop)(ub bu cu:Nat)(do_:Int×Int×Int×Unit->HY->(Unit->HP)->PX->Prop):Prop where
 le:∀ds H hs,U ds H hs->hs.length<=bu
 st:∀ds H H' hs,U ds H hs->FrW wb b M0 H H'->U ds H' hs
 skip:∀ds H hs x y,U ds H hs->(∀a,Hw (Ga x) (Gc y) a=false)->U (ds++[(x,y)]) H hs
 do_:∀(ds:List (Int×Int))(H:HY)(hs:List (Int×B.Fn))(M:Mn)(lv:List (Int×Bool))(x y h:Int)(ctx:List (Int×B.Fn))(N:HP)(X:PX),U ds H hs->(∃a,Hw (Ga x) (Gc y) a=true)->Wk Hb H wb b M0 Mb M L lvb lv ((h,Hw (Ga x) (Gc y))::(hs++ctx))->M.nx+(cu:Int)<576460752303423470->M.hs.length<=59990->
  (∀M' lv' H' hs',Wk Hb H' wb b M0 Mb M' L lvb lv' (hs'++ctx)->U (ds++[(x,y)]) H' hs'->M'.nx<=M.nx+(cu:Int)->(∀c,H c≠none->c≠ub->c≠wb->K0 b M0 c->H' c=H c)->N H')->do_ (x,y,h,()) H (λ_ H'=>N H') X
theorem A0y{Hb H:HY}{wb b rp rq ub bu cu:Nat}{M0 Mb M:Mn}{L:Ae}{lvb lv:List (Int×Bool)}{hsU ctx:List (Int×B.Fn)}{Ga Gc:Int->B.Fn}{mp mq:List (Int×Int)}{U:List (Int×Int)->HY->List (Int×B.Fn)->Prop}{ds:List (Int×Int)}{x y:Int}{do_:Int×Int×Int×Unit->HY->(Unit->HP)->PX->Prop}{X:PX}{N:HP}(s:PrS Hb H wb b M0 Mb M L lvb lv hsU ctx Ga Gc mp mq rp rq U ds)(d:DoU Hb wb b M0 Mb L lvb Ga Gc U ub bu cu do_)(hn:M.nx+(cu:Int)<576460752303423460)(hl:M.hs.length<=59900)(hx:(Ac mp x).isSome=true)(hy:(Ac mq y).isSome=true)(hrp:rp≠ub/\rp≠wb/\K0 b M0 rp)(hrq:rq≠ub/\rq≠wb/\K0 b M0 rq)(h:∀M' lv' H' hsU',PrS Hb H' wb b M0 Mb M' L lvb lv' hsU' ctx Ga Gc mp mq rp rq U (ds++[(x,y)])->M'.nx<=M.nx+(cu:Int)+1->N H'):Wp Y0 D6 Du (some b,[(Ac mp x).getD (0:Int),(Ac mq y).getD (0:Int)],()) H (λ(b:Int×Int×Unit)_ H'=>Wp Y0 Bh Be (some wb,b.1,b.2.1,()) H' (λ(b:Int×Unit)_ H'=>∃(x_4:Ap),H' wb=some (Ob.st C3 x_4)/\x_4=x_4/\Wp Y0 Er D8 (x_4.m,b.1,(0:Int),()) H' (λ(b_9:Bool×Int×Unit)_ H'=>(b_9.1=true->Wp Y0 Ao Al (some wb,[b.1],()) H' (λ(_ _:Unit)(H':HY)=>N H') X)/\(¬b_9.1=true->(¬b_9.2.1=(0:Int)->Wp Y0 Ao Al (some wb,[b.1],()) H' (λ(_ _:Unit)(H':HY)=>N H') X)/\(¬¬b_9.2.1=(0:Int)->do_ (x,y,b.1,()) H' (λ_ H'=>N H') X))) X) X) X:=by
 obtain⟨hp,ep⟩:=Option.isSome_iff_exists.1 hx;obtain⟨hq,eq⟩:=Option.isSome_iff_exists.1 hy;rw[ep,eq,Option.getD_some,Option.getD_some];have ma:=s.k.h.Ba (hp,Ga x) (List.mem_append_right _ (List.mem_append_right _ (List.mem_append_left _ (Afj ep))));have mc:=s.k.h.Ba (hq,Gc y) (List.mem_append_right _ (List.mem_append_left _ (Afj eq)));have hp1:H rp≠none:=by rw[s.p];simp
 have hq1:H rq≠none:=by rw[s.q];simp
 refine Aul s.k (by omega) (by omega) ma mc (λhz M' lv' H' k' nx' f'=>?_) λhe M' lv' H' k' nx' f'=>?_
 .exact h M' lv' H' hsU ⟨k',d.skip _ _ _ _ _ (d.st _ _ _ _ s.u f') hz,by rw[f' rp hp1 hrp.2.1 hrp.2.2];exact s.p,by rw[f' rq hq1 hrq.2.1 hrq.2.2];exact s.q⟩ (by omega)
 .have e1:H' rp=some (.mp (.int .i64) (.int .i64) mp):=by rw[f' rp hp1 hrp.2.1 hrp.2.2];exact s.p
  have e2:H' rq=some (.mp (.int .i64) (.int .i64) mq):=by rw[f' rq hq1 hrq.2.1 hrq.2.2];exact s.q
  have l1:=s.k.ln;have l2:=k'.ln;rw[List.length_cons]at l2;refine d.do_ ds H' hsU M' lv' x y M.nx _ N X (d.st _ _ _ _ s.u f') he k' (by omega) (by omega) λM2 lv2 H2 hs2 k2 u2 nx2 f2=>?_;exact h M2 lv2 H2 hs2 ⟨k2,u2,by rw[f2 rp (by rw[e1];simp) hrp.1 hrp.2.1 hrp.2.2];exact e1,by rw[f2 rq (by rw[e2];simp) hrq.1 hrq.2.1 hrq.2.2];exact e2⟩ (by omega)
theorem PrS.fresh{Hb H:HY}{wb b rp rq ub bu cu l:Nat}{M0 Mb M:Mn}{L:Ae}{lvb lv:List (Int×Bool)}{hsU ctx:List (Int×B.Fn)}{Ga Gc:Int->B.Fn}{mp mq:List (Int×Int)}{U:List (Int×Int)->HY->List (Int×B.Fn)->Prop}{ds:List (Int×Int)}{y:Ob Y0}{do_:Int×Int×Int×Unit->HY->(Unit->HP)->PX->Prop}(s:PrS Hb H wb b M0 Mb M L lvb lv hsU ctx Ga Gc mp mq rp rq U ds)(d:DoU Hb wb b M0 Mb L lvb Ga Gc U ub bu cu do_)(hl:H l=none):PrS Hb (Ab H l y) wb b M0 Mb M L lvb lv hsU ctx Ga Gc mp mq rp rq U ds:=by have ne:∀{c},H c≠none->c≠l:=λh e=>h (by rw[e];exact hl);exact⟨s.k.fresh hl,d.st _ _ _ _ s.u λc a0 _ _=>Ad _ _ (ne a0),by rw[Ad _ _ (ne (by rw[s.p];simp))];exact s.p,by rw[Ad _ _ (ne (by rw[s.q];simp))];exact s.q⟩
theorem Aid{Hb H:HY}{wb b ub bu cu W Z:Nat}{M0 Mb M:Mn}{L:Ae}{lvb lv:List (Int×Bool)}{hsU ctx:List (Int×B.Fn)}{ta tb:A6}{Ga Gc:Int->B.Fn}{bda ca pka bdc cc pkc:Nat}{n0:Int}{U:List (Int×Int)->HY->List (Int×B.Fn)->Prop}{do_:Int×Int×Int×Unit->HY->(Unit->HP)->PX->Prop}{X:PX}{Q:Unit->UU}(k:Wk Hb H wb b M0 Mb M L lvb lv (hsU++ctx))(u:U [] H hsU)(d:DoU Hb wb b M0 Mb L lvb Ga Gc U ub bu cu do_)(na:Ajf L n0 ta Ga bda ca pka)(nc:Ajf L n0 tb Gc bdc cc pkc)(hS:M.S.n=n0)(hub:H ub≠none)(hubw:ub≠wb)(hubm:K0 b M0 ub)(hb1:bda<=100000)(hb2:bdc<=100000)(hW:W=bdc*(cu+1))(hZ:Z=bda*W)(hn:M.nx+(ca:Int)+(cc:Int)+(Z:Int)+(cu:Int)<576460752303419000)(hl1:M.hs.length+pka<=59900)(hl2:M.hs.length+bda+pkc<=59900)(hl3:M0.hs.length+lvb.length+ctx.length+bu+bda+bdc<=59900)(post:∀M' lv' H' hsU' ds,Wk Hb H' wb b M0 Mb M' L lvb lv' (hsU'++ctx)->U ds H' hsU'->(∀x y a,Ga x a=true->Gc y a=true->(x,y)∈ds)->M'.nx<=M.nx+(ca:Int)+(cc:Int)+(Z:Int)->Q () () H'):Wp Y0 Ms Jc (some wb,ta,tb,do_,()) H Q X:=by
 refine Aan _ _ _ _ _ _ _ ?_;unfold R0;have wln:=k.w.ln;refine na k.w (by omega) hl1 hS λM1 lv1 H1 rp mp k1 hrp0 hrp1 mndp zp lp nx1=>?_;have k1l:=k1.ln;have lhp:(hsM mp Ga).length=mp.length:=List.length_map _;refine nc k1.w (by omega) (by omega) (k1.w.bs.n.trans (k.w.bs.n.symm.trans hS)) λM2 lv2 H2 rq mq k2 hrq0 hrq1 mndq zq lq nx2=>?_;have lhq:(hsM mq Gc).length=mq.length:=List.length_map _;have hrpw:rp≠wb:=λe=>by rw[e,k.w.ob]at hrp0;cases hrp0
 have hrqw:rq≠wb:=λe=>by rw[e,k1.w.ob]at hrq0;cases hrq0
 have hrpm:K0 b M0 rp:=(k.w.mg.h.notM hrp0).back k.w.bs;have hrqm:K0 b M0 rq:=(k1.w.mg.h.notM hrq0).back k1.w.bs;have hrpu:rp≠ub:=λe=>hub (e▸hrp0);have hrqu:rq≠ub:=λe=>by have:=k1.f ub hub hubw hubm;rw[<-this,<-e]at hub;exact hub hrq0
 have e1:H2 rp=some (.mp (.int .i64) (.int .i64) mp):=by rw[k2.f rp (by rw[hrp1];simp) hrpw hrpm];exact hrp1
 have S0:PrS Hb H2 wb b M0 Mb M2 L lvb lv2 hsU ctx Ga Gc mp mq rp rq U []:=by refine⟨((k.trans k1).trans k2).perm ?_,d.st _ _ _ _ u (k1.f.trans k2.f),e1,hrq1⟩;refine(List.perm_append_comm_assoc hsU (hsM mq Gc) _).trans (List.Perm.append_left _ ?_);exact List.perm_append_comm_assoc hsU (hsM mp Ga) ctx
 have hkp:=Ac8 mp;have hkq:=Ac8 mq;have bound:∀{M':Mn}{H':HY}{lv' hs' ds},PrS Hb H' wb b M0 Mb M' L lvb lv' hs' ctx Ga Gc mp mq rp rq U ds->M'.hs.length<=59900:=λ{M' H' lv' hs' ds}s=>by have h1:=s.k.ln;have h2:=d.le _ _ _ s.u;simp only[List.length_append]at h1;omega
 refine Sy (b:=rp) e1 (by omega) λc l r r' hl=>?_;have S1:=S0.fresh (y:=.lp r') d hl;generalize Ab H2 l (Ob.lp r')=H3 at S1;refine λ_=>⟨λn z H'=>n=mp.length-z.2.1/\z.2.1<=mp.length/\z.1=Bu mp/\∃M' lv' hs' ds,PrS Hb H' wb b M0 Mb M' L lvb lv' hs' ctx Ga Gc mp mq rp rq U ds/\(∀x∈(Bu mp).take z.2.1,∀y∈Bu mq,(x,y)∈ds)/\M'.nx+((n*W:Nat):Int)<=M.nx+(ca:Int)+(cc:Int)+(Z:Int),⟨_,rfl,Nat.zero_le _,rfl,M2,lv2,hsU,[],S1,by simp,?_⟩,?_⟩
 .have:mp.length*W<=Z:=by rw[hZ];exact Nat.mul_le_mul_right _ lp
  show M2.nx+(((mp.length-0)*W:Nat):Int)<=_;rw[Nat.sub_zero];omega
 rintro n ⟨kp,i,_⟩ H4 ⟨hn0,hi0,hkp0,M4,lv4,hs4,ds4,S4,cov4,nx4⟩;have hn1:n=mp.length-i:=hn0;have hi:i<=mp.length:=hi0;have hkp1:kp=Bu mp:=hkp0;subst hkp1;replace cov4:∀x∈(Bu mp).take i,∀y∈Bu mq,(x,y)∈ds4:=cov4;clear hn0 hi0 hkp0;refine⟨λhil _=>?_,λhil=>?_⟩
 .have hil:i<(Bu mp).length:=hil;refine⟨hil,hil,Sy (b:=rq) S4.q (by omega) λc2 l2 r2 r2' hl2'=>?_⟩;have S5:=S4.fresh (y:=.lp r2') d hl2';generalize Ab H4 l2 (Ob.lp r2')=H5 at S5;obtain⟨n',hn'⟩:∃n',n=n'+1:=⟨n-1,by omega⟩
  have hsplit:n*W=n'*W+W:=by rw[hn',Nat.succ_mul]
  have hxs:∀(hh:i<(Bu mp).length),(Ac mp ((Bu mp)[i]'hh)).isSome=true:=λhh=>by obtain⟨h,e,_⟩:=Xs mndp (List.getElem_mem hh);rw[e];rfl
  refine λ_=>⟨λn1 z H'=>n1=mq.length-z.2.2.1/\z.2.2.1<=mq.length/\z.1=Bu mp/\z.2.1=Bu mq/\∃M' lv' hs' ds,PrS Hb H' wb b M0 Mb M' L lvb lv' hs' ctx Ga Gc mp mq rp rq U ds/\(∀x∈(Bu mp).take i,∀y∈Bu mq,(x,y)∈ds)/\(∀y∈(Bu mq).take z.2.2.1,((Bu mp)[i],y)∈ds)/\M'.nx+((n1*(cu+1):Nat):Int)+((n'*W:Nat):Int)<=M.nx+(ca:Int)+(cc:Int)+(Z:Int),⟨_,rfl,Nat.zero_le _,rfl,rfl,M4,lv4,hs4,ds4,S5,cov4,by simp,?_⟩,?_⟩
  .have:mq.length*(cu+1)<=W:=by rw[hW];exact Nat.mul_le_mul_right _ lq
   show M4.nx+(((mq.length-0)*(cu+1):Nat):Int)+_<=_;rw[Nat.sub_zero];omega
  rintro n1 ⟨kp2,kq,j,_⟩ H6 ⟨hn60,hj0,hkp0,hkq0,M6,lv6,hs6,ds6,S6,cov6,cov6',nx6⟩;have hn6:n1=mq.length-j:=hn60;have hj:j<=mq.length:=hj0;have hkp2:kp2=Bu mp:=hkp0;have hkq2:kq=Bu mq:=hkq0;subst hkp2 hkq2;replace cov6':∀y∈(Bu mq).take j,((Bu mp)[i],y)∈ds6:=cov6';clear hn60 hj0 hkp0 hkq0;refine⟨λhjl _=>?_,λhjl=>?_⟩
  .have hjl:j<(Bu mq).length:=hjl;have hys:(Ac mq ((Bu mq)[j]'hjl)).isSome=true:=by obtain⟨h,e,_⟩:=Xs mndq (List.getElem_mem hjl);rw[e];rfl
   obtain⟨n2,hn2⟩:∃n2,n1=n2+1:=⟨n1-1,by omega⟩
   have hsp2:n1*(cu+1)=n2*(cu+1)+(cu+1):=by rw[hn2,Nat.succ_mul]
   have b6:=bound S6;have cov:∀x∈(Bu mp).take i,∀y∈Bu mq,(x,y)∈ds6++[((Bu mp)[i],(Bu mq)[j])]:=λx hx y hy=>List.mem_append_left _ (cov6 x hx y hy);have cov':∀y∈(Bu mq).take (j+1),((Bu mp)[i],y)∈ds6++[((Bu mp)[i],(Bu mq)[j])]:=λy hy=>by
    rw[List.take_succ_eq_append_getElem hjl,List.mem_append,List.mem_singleton]at hy;rcases hy with e|e
    .exact List.mem_append_left _ (cov6' y e)
    .rw[e];simp
   refine⟨hjl,hjl,wb,rfl,⟨_,S6.k.w.ob,⟨rfl,rp,rfl,mp,S6.p,rq,rfl,mq,S6.q,?_⟩,rfl,rq,rfl,mq,S6.q,rp,rfl,mp,S6.p,?_⟩,⟨rp,rfl,mp,S6.p,⟨_,S6.k.w.ob,rfl,rq,rfl,mq,S6.q,?_⟩,rq,rfl,mq,S6.q,Akk ⟨_,S6.k.w.ob,rfl,?_⟩⟩,rq,rfl,mq,S6.q,⟨_,S6.k.w.ob,rfl,rp,rfl,mp,S6.p,?_⟩,rp,rfl,mp,S6.p,Akk ⟨_,S6.k.w.ob,rfl,?_⟩⟩;all_goals exact A0y S6 d (by omega) b6 (hxs hil) hys ⟨hrpu,hrpw,hrpm⟩ ⟨hrqu,hrqw,hrqm⟩ λM7 lv7 H7 hs7 S7 nx7=>⟨by show j+1<=_;omega,n2,by omega,by show n2=mq.length-(j+1);omega,by show j+1<=_;omega,rfl,rfl,M7,lv7,hs7,_,S7,cov,cov',by omega⟩
  .have hjl:¬j<(Bu mq).length:=hjl;have cov:∀x∈(Bu mp).take (i+1),∀y∈Bu mq,(x,y)∈ds6:=λx hx y hy=>by
    rw[List.take_succ_eq_append_getElem hil,List.mem_append,List.mem_singleton]at hx;rcases hx with e|e
    .exact cov6 x e y hy
    .rw[e];exact cov6' y (by rw[List.take_of_length_le (by omega)];exact hy)
   exact⟨by show i+1<=_;omega,n',by omega,by show n'=mp.length-(i+1);omega,by show i+1<=_;omega,rfl,M6,lv6,hs6,ds6,S6,cov,by omega⟩
 .have hil:¬i<(Bu mp).length:=hil;have hfst:∀{m:List (Int×Int)}{G:Int->B.Fn},(hsM m G).map (·.1)=m.map (·.2):=λ{m G}=>by unfold hsM;rw[List.map_map];rfl
  refine Aem (b:=rp) S4.p (by omega) λc5 l5 r5 r5' x5 hl5 hx5=>?_;have S5:=S4.fresh (y:=.lp r5') d hl5;generalize Ab H4 l5 (Ob.lp r5')=H5 at S5;have lx5:=hx5.length_eq;rw[List.length_map]at lx5;have kk:Wk Hb H5 wb b M0 Mb M4 L lvb lv4 (hsM mp Ga++(hsM mq Gc++(hs4++ctx))):=by refine S5.k.perm ?_;refine List.Perm.trans ?_ (List.perm_append_comm_assoc (hsM mq Gc) hs4 _);refine(List.perm_append_comm_assoc (hsM mp Ga) (hsM mq Gc) _).trans (List.Perm.append_left _ ?_);exact List.perm_append_comm_assoc (hsM mp Ga) hs4 ctx
  refine Wk.drop kk (by omega) (by omega) (by rw[hfst];exact hx5) λM7 lv7 H7 k7 nx7 f7=>?_;have q7:H7 rq=some (.mp (.int .i64) (.int .i64) mq):=by rw[f7 rq (by rw[S5.q];simp) hrqw hrqm];exact S5.q
  refine Aem (b:=rq) q7 (by omega) λc8 l8 r8 r8' x8 hl8 hx8=>?_;have lx8:=hx8.length_eq;rw[List.length_map]at lx8;have k8:=k7.fresh (y:=.lp r8') hl8;have u8:U ds4 (Ab H7 l8 (Ob.lp r8')) hs4:=d.st _ _ _ _ (d.st _ _ _ _ S5.u f7) λc a0 _ _=>Ad _ _ λe=>a0 (by rw[e];exact hl8);generalize Ab H7 l8 (Ob.lp r8')=H8 at k8 u8;refine Wk.drop k8 (by omega) (by omega) (by rw[hfst];exact hx8) λM9 lv9 H9 k9 nx9 f9=>?_;refine post M9 lv9 H9 hs4 ds4 k9 (d.st _ _ _ _ u8 f9) (λx y a hxa hya=>?_) (by omega);refine cov4 x ?_ y ?_
  .rw[List.take_of_length_le (by omega)];refine(L9 mp).mem_iff.2 (Classical.byContradiction λhne=>?_);rw[zp x (Nb.2 hne)]at hxa;cases hxa
  .refine(L9 mq).mem_iff.2 (Classical.byContradiction λhne=>?_);rw[zq y (Nb.2 hne)]at hya;cases hya
section
set_option maxRecDepth 100000
set_option maxHeartbeats 2000000
def N7(x y h:Int)(p3:A6)(p4 p5:Option Nat)(H:HY)(Q:Unit->UU)(X:PX):Prop:=(p3.Op=(14:Int)->InK .i64 x->InK .i64 y->InK .i64 (x+y)/\∃(b:Nat),p5=some b/\∃(x1:Option Nat),H b=some (Ob.st Aq x1)/\x1=x1/\Wp Y0 C0 Cp (p4,x1,x+y,h,()) H (λ(b io:Unit)(G:HY)=>Q () () G) X)/\(¬p3.Op=(14:Int)->(p3.Op=(15:Int)->InK .i64 x->InK .i64 y->InK .i64 (x-y)/\∃(b:Nat),p5=some b/\∃(x1:Option Nat),H b=some (Ob.st Aq x1)/\x1=x1/\Wp Y0 C0 Cp (p4,x1,x-y,h,()) H (λ(b io:Unit)(G:HY)=>Q () () G) X)/\(¬p3.Op=(15:Int)->(p3.Op=(16:Int)->InK .i64 x->InK .i64 y->InK .i64 (x*y)/\∃(b:Nat),p5=some b/\∃(x1:Option Nat),H b=some (Ob.st Aq x1)/\x1=x1/\Wp Y0 C0 Cp (p4,x1,x*y,h,()) H (λ(b io:Unit)(G:HY)=>Q () () G) X)/\(¬p3.Op=(16:Int)->(p3.Op=(17:Int)->InK .i64 x->InK .i64 y->¬y=(0:Int)/\InK .i64 (x.tmod y)/\(InK .i64 (x.tmod y)->InK .i64 y->InK .i64 (x.tmod y+y)/\(InK .i64 (x.tmod y+y)->InK .i64 y->¬y=(0:Int)/\InK .i64 ((x.tmod y+y).tmod y)/\∃(b:Nat),p5=some b/\∃(x1:Option Nat),H b=some (Ob.st Aq x1)/\x1=x1/\Wp Y0 C0 Cp (p4,x1,(x.tmod y+y).tmod y,h,()) H (λ(b io:Unit)(G:HY)=>Q () () G) X)))/\(¬p3.Op=(17:Int)->∃(b:Nat),p5=some b/\∃(x1:Option Nat),H b=some (Ob.st Aq x1)/\x1=x1/\Wp Y0 C0 Cp (p4,x1,x,h,()) H (λ(b io:Unit)(G:HY)=>Q () () G) X))))
theorem U3 x y h p3 p4 p5 H Q X(hyp_:N7 x y h p3 p4 p5 H Q X):Wp Y0 Gf Eu (x,y,h,p3,p4,p5,()) H Q X:=wF Tryz.f136 {} (by kernel_rfl) hyp_ (by kernel_rfl)
end
section
def gV(V:B.As->Option Int):Int->B.Fn:=λn a=>decide (V a=some n)
variable {n:Int} {a:B.As}
theorem Rq{V:B.As->Option Int}:gV V n a=true↔V a=some n:=decide_eq_true_iff
theorem As0{V:B.As->Option Int}(h:∀a,V a≠some n):gV V n=λ_=>false:=by funext a;exact decide_eq_false (h a)
theorem Apk{N k:Nat}(hN:N<1073741824)(hk:k<60):Avk (N:Int) k=decide (N/2^k%2=1):=by
 unfold Avk;have e0:min ((k:Int)).toNat 64=k:=by omega
 have e1:((N:Int)).fdiv (2^k)=((N/2^k:Nat):Int):=by rw[show ((2:Int)^k)=((2^k:Nat):Int) by norm_cast];exact(Int.ofNat_fdiv N (2^k)).symm
 rw[e0,e1];have hq:N/2^k<1073741824:=Nat.lt_of_le_of_lt (Nat.div_le_self _ _) hN;generalize N/2^k=q at hq;have e2:D0 .and .i64 (q:Int) 1=((q%2:Nat):Int):=by
  have e3:(BitVec.ofInt 64 (q:Int)&&&BitVec.ofInt 64 1).toNat=q%2:=by
   rw[BitVec.toNat_and,BitVec.toNat_ofInt,BitVec.toNat_ofInt];have e4:((1:Int)%((2^64:Nat):Int)).toNat=1:=by decide
   have e5:((2^64:Nat):Int)=18446744073709551616:=by decide
   rw[e4,e5,Nat.and_one_is_mod];omega
  show IntKind.i64.wrap ((BitVec.ofInt 64 (q:Int)&&&BitVec.ofInt 64 1).toNat:Int)=_;rw[e3];exact Hc (Bk.2 (by omega))
 rw[e2];congr 1;apply propext;omega
def Ea(a:B.As):List Int->Nat
 | []=>0
 |v::l=>(if a v=true then 1 else 0)+2*Ea a l
theorem Ry{v:Int}{l:List Int}:Ea a (v::l)=(if a v=true then 1 else 0)+2*Ea a l:=rfl
theorem Ahv{a:B.As}:∀{l:List Int},Ea a l<2^l.length
 | []=>Nat.one_pos
 |v::l=>by have:=Ahv (a:=a) (l:=l);rw[List.length_cons,Nat.pow_succ,Ry];split<;>omega
theorem Yb{a:B.As}:∀{l:List Int}{k:Nat}(h:k<l.length),(a l[k]=true↔Ea a l/2^k%2=1)
 |v::l,0,_=>by
  show a v=true↔Ea a (v::l)/2^0%2=1;rw[Nat.pow_zero,Nat.div_one,Ry];by_cases e:a v=true
  .rw[if_pos e];simp only[e,true_iff];omega
  .rw[if_neg e];exact⟨λh=>absurd h e,λh=>by omega⟩
 |v::l,k+1,h=>by
  have hk:k<l.length:=by simpa using h
  have h1:=Yb (a:=a) (l:=l) (k:=k) hk;show a (l[k]'hk)=true↔_;rw[h1];have e:Ea a (v::l)/2^(k+1)=Ea a l/2^k:=by rw[Nat.pow_succ,Nat.mul_comm,<-Nat.div_div_eq_div_mul,Ry];congr 1;split<;>omega
  rw[e]
theorem Ato:∀{n x y:Nat},x<2^n->y<2^n->(∀k,k<n->(x/2^k%2=1↔y/2^k%2=1))->x=y
 |0,x,y,hx,hy,_=>by simp at hx hy;omega
 |n+1,x,y,hx,hy,h=>by
  rw[Nat.pow_succ]at hx hy;have h0:=h 0 (by omega);rw[Nat.pow_zero,Nat.div_one,Nat.div_one]at h0;have:=Ato (n:=n) (x:=x/2) (y:=y/2) (by omega) (by omega) λk hk=>by have:=h (k+1) (by omega);rw[Nat.pow_succ,Nat.mul_comm,<-Nat.div_div_eq_div_mul,<-Nat.div_div_eq_div_mul]at this;exact this
  omega
theorem Akm{vars:List Int}{N:Int}(hl:vars.length<=30)(h0:0<=N)(h1:N<2^vars.length):Hv (Sa vars N) a=true↔(Ea a vars:Int)=N:=by
 obtain⟨m,rfl⟩:=Int.eq_ofNat_of_zero_le h0;have hm:m<2^vars.length:=by have h1:(m:Int)<2^vars.length:=h1;rw[show ((2:Int)^vars.length)=((2^vars.length:Nat):Int) by norm_cast]at h1;exact Int.ofNat_lt.1 h1
 have hp:2^vars.length<=2^30:=Nat.pow_le_pow_right (by omega) hl;have hm30:m<1073741824:=by
  have:(2:Nat)^30=1073741824:=by decide
  omega
 have get:Hv (Sa vars (m:Int)) a=true↔∀k(h:k<vars.length),(a vars[k]=true↔m/2^k%2=1):=by
  rw[O2];refine⟨λh k hk=>?_,λh t ht=>?_⟩
  .have e:=Xv (n:=(m:Int)) hk;have:=h _ (List.mem_of_getElem? e);have this:a vars[k]=Avk (m:Int) k:=this;rw[this,Apk hm30 (by omega),decide_eq_true_iff]
  .obtain⟨k,hk,rfl⟩:=List.mem_iff_getElem.1 ht;have hk':k<vars.length:=by rw[Xu]at hk;exact hk
   have e:=Xv (n:=(m:Int)) hk';rw[List.getElem?_eq_getElem hk]at e;rw[Option.some.inj e];show a vars[k]=Avk (m:Int) k;rw[Apk hm30 (by omega),Bool.eq_iff_iff,decide_eq_true_iff];exact h k hk'
 rw[get];refine⟨λh=>?_,λh k hk=>?_⟩
 .have:=Ato (Ahv (a:=a) (l:=vars)) hm λk hk=>(Yb hk).symm.trans (h k hk);exact congrArg _ this
 .have h:Ea a vars=m:=Int.ofNat_inj.1 h;rw[<-h];exact Yb hk
def Ag6(l:List Bi)(name:ByteArray):Nat:=l.findIdx λv=>decide (v.Name=name)
variable {L:Ae} {i:Nat}
theorem Amh{name:ByteArray}{H:HY}{X:PX}{Q:Int×Unit->UU}(hL:R5 L)(he:Ag6 L.Ag name=i)(hi:i<L.Ag.length)(h:Q ((i:Int),()) () H):Wp Y0 Je Gp (L,name,()) H Q X:=by
 subst he;refine Aal _ _ _ _ _ ?_;unfold Rv;have hln:=hL.ln;refine λ_=>⟨λn z=>∃j:Nat,z.1=(j:Int)/\n=L.Ag.length-j/\j<=Ag6 L.Ag name,⟨_,rfl,0,rfl,rfl,Nat.zero_le _⟩,?_⟩
 rintro n ⟨x,_⟩ ⟨j,hx0,hn,hj⟩;have hx:x=(j:Int):=hx0;subst hx;have t0:((j:Int)).toNat=j:=by omega
 refine⟨λ_ _=>⟨λ_=>by show (0:Int)<=(j:Int);omega,by show ((j:Int)).toNat<_;omega,λhe=>?_,λhe _=>⟨Bk.2 (by show _<=(j:Int)+1/\(j:Int)+1<=_;omega),L.Ag.length-(j+1),by omega,rfl,j+1,by show (j:Int)+1=((j+1:Nat):Int);omega,rfl,?_⟩⟩,λhlt=>absurd (show (j:Int)<_ by omega) hlt⟩
 .have he:(L.Ag[((j:Int)).toNat]'(by omega)).Name=name:=he;simp only[t0]at he;have:¬j<Ag6 L.Ag name:=λhlt=>by have:=List.not_of_lt_findIdx hlt;rw[decide_eq_true he]at this;cases this
  have e:j=Ag6 L.Ag name:=by omega
  rw[<-e]at h;exact h
 .have he:¬(L.Ag[((j:Int)).toNat]'(by omega)).Name=name:=he;simp only[t0]at he;have:j≠Ag6 L.Ag name:=λe=>by have h2:=List.findIdx_getElem (xs:=L.Ag) (p:=λv:Bi=>decide (v.Name=name)) (w:=hi);have h2:=of_decide_eq_true h2;subst e;exact he h2
  omega
def Vf(L:Ae)(next:Bool)(i:Nat)(a:B.As):Option Int:=match L.Ag[i]? with
 |some v=>if loV v+(Ea a (Lu L i next):Int)<=hiV v then some (loV v+(Ea a (Lu L i next):Int)) else none
 |none=>none
theorem Auc{next:Bool}(hi:i<L.Bits.length):(Lu L i next).length=L.Bits[i].toNat:=by unfold Lu Wu;rw[List.getElem?_eq_getElem hi];split<;>simp
theorem Xz(hL:Aas L){next:Bool}(hi:i<L.Ag.length):Vf L next i a=some n↔(loV L.Ag[i]<=n/\n<=hiV L.Ag[i])/\isF L next i n a=true:=by
 have hib:i<L.Bits.length:=by rw[hL.lb];exact hi
 obtain⟨f1,f2,f3,f4⟩:=hL.fit i hi hib;have hN:Qn L i n=n-loV L.Ag[i]:=by unfold Qn loV;rw[List.getElem?_eq_getElem hi];show (if _ then _ else _)=_;split<;>simp
 have v1:=Auc (next:=next) hib;have v2:=(Af4 hL.toR5 hi (next:=next)).1;unfold Vf isF;rw[List.getElem?_eq_getElem hi,hN];show (if _ then _ else _)=_↔_;constructor
 .intro h;split at h
  .rename_i hle;have h:=Option.some.inj h;have h0:0<=n-loV L.Ag[i]:=by omega
   refine⟨by omega,(Akm v2 h0 ?_).2 (by omega)⟩;rw[v1];omega
  .cases h
 .rintro⟨⟨h1,h2⟩,h3⟩;have:=(Akm v2 (by omega) (by rw[v1];omega)).1 h3;rw[if_pos (by omega)];congr 1;omega
theorem Adl{H:HY}{wb b r c:Nat}{M0 M:Mn}{lv:List (Int×Bool)}{y z:Ob Y0}(w:WK H wb b M0 M L lv)(hr:H r=none)(hc:Ab H r y c=none):Wk H (Ab (Ab H r y) c z) wb b M0 M M L lv lv []/\Ab (Ab H r y) c z r=some y/\Ab (Ab H r y) c z c=some z/\r≠wb/\c≠wb/\r≠c/\K0 b M0 r/\K0 b M0 c/\H c=none:=by
 have hrc:r≠c:=λe=>by subst e;rw[Aj]at hc;cases hc
 have hc':H c=none:=by rw[Ad _ _ (Ne.symm hrc)]at hc;exact hc
 have hrw:r≠wb:=λe=>by rw[e,w.ob]at hr;cases hr
 have hcw:c≠wb:=λe=>by rw[e,w.ob]at hc';cases hc'
 refine⟨((Wk.of w).fresh hr).fresh hc,?_,Aj _ _ _,hrw,hcw,hrc,(w.mg.h.notM hr).back w.bs,(w.mg.h.notM hc').back w.bs,hc'⟩;rw[Ad _ _ hrc,Aj]
theorem Alv{n0:Int}{t:A6}(ht:t.Op=1):Ajf L n0 t (gV λ_=>some t.N) 1 1 1:=by
 intro wb b M0 M lv H X Q w hn hl hS post;refine Kx _ _ _ _ _ ?_;unfold Hn;intro r hr c hc;obtain⟨k0,e1,e2,d1,d2,d3,n1,n2,hcn⟩:=Adl (z:=.st Aq (some r)) w hr hc;generalize Ab (Ab H r (.mp (.int .i64) (.int .i64) [])) c (.st Aq (some r))=H2 at k0 e1 e2;refine⟨λ_=>?_,λh=>absurd ht h⟩;have fin:∀{M1:Mn}{lv1 H1},Wk H2 H1 wb b M0 M M1 L lv lv1 [(M.nx,λ_=>true)]->M1.nx=M.nx+1->H1 r=some (.mp (.int .i64) (.int .i64) [])/\H1 c=some (.st Aq (some r))/\Q (some r,()) () (Ab H1 r (.mp (.int .i64) (.int .i64) (C4 [] t.N M.nx))):=λ{M1 lv1 H1}k1 nx1=>by
  refine⟨by rw[k1.f r (by rw[e1];simp) d1 n1];exact e1,by rw[k1.f c (by rw[e2];simp) d2 n2];exact e2,?_⟩;refine post M1 lv1 _ r [(t.N,M.nx)] ((k0.trans k1).perm ?_ |>.Ap9 d1 n1 hr) hr (Aj _ _ _) (Pm (m:=[]) (by simp [mnd]) _ _) (λj hj=>As0 λa e=>?_) (Nat.le_refl _) (by omega)
  .have:gV (λ_=>some t.N) t.N=λ_=>true:=by funext a;exact decide_eq_true rfl
   show [(M.nx,gV (λ_=>some t.N) t.N)].Perm _;rw[this];exact .refl _
  .have e:=Option.some.inj e;subst e;simp [Ac]at hj
 refine⟨⟨some r,e2,rfl,(Wk.of k0.w).const (by omega) λM1 lv1 H1 k1 nx1=>?_⟩,(Wk.of k0.w).const (by omega) λM1 lv1 H1 k1 nx1=>?_⟩
 .obtain⟨a1,a2,a3⟩:=fin k1 nx1;exact⟨r,rfl,[],a1,some r,by rw[Ad _ _ (Ne.symm d3)];exact a2,rfl,a3⟩
 .obtain⟨a1,a2,a3⟩:=fin k1 nx1;exact⟨some r,a2,rfl,r,rfl,[],a1,some r,by rw[Ad _ _ (Ne.symm d3)];exact a2,rfl,a3⟩
end
theorem A1o{m:List (Int×Int)}{G:Int->B.Fn}{n h:Int}(hn:Ac m n=none):(hsM (C4 m n h) G).Perm ((h,G n)::hsM m G):=by
 have p:=(X0 (k:=n) (v:=h) (m:=m)).map λp=>(p.2,G p.1)
 rw[Adr hn]at p;exact p
theorem An6{L:Ae}{n0:Int}{t:A6}(hL:Aas L)(hfit:2*Iv L<=n0)(ht:t.Op=3∨t.Op=4)(hi:Ag6 L.Ag t.Name<L.Ag.length):Ajf L n0 t (gV (Vf L (decide (t.Op=4)) (Ag6 L.Ag t.Name))) 16 20 20:=by
 intro wb b M0 M lv H X Q w hn hl hS post;refine Kx _ _ _ _ _ ?_;unfold Hn;intro r hr c hc;obtain⟨k0,e1,e2,d1,d2,d3,n1,n2,hcn⟩:=Adl (z:=.st Aq (some r)) w hr hc;generalize Ab (Ab H r (.mp (.int .i64) (.int .i64) [])) c (.st Aq (some r))=H2 at k0 e1 e2;obtain⟨nx,hnx⟩:∃nx,decide (t.Op=(4:Int))=nx:=⟨_,rfl⟩
 obtain⟨i,hidx⟩:∃i,Ag6 L.Ag t.Name=i:=⟨_,rfl⟩
 rw[hnx,hidx]at post;rw[hidx]at hi;have h8:2*Iv L<=8:=by have:=w.mg.n8;omega
 obtain⟨c1,c2,c3,c4,c5⟩:=hL.cnt h8 hi;have hwl:=w.ln;have hln:=hL.ln;have t0:((i:Int)).toNat=i:=by omega
 refine⟨λh=>by omega,λ_=>⟨λh3=>?_,λh3=>⟨λh4=>?_,λh4=>by omega⟩⟩⟩;all_goals
  refine⟨wb,rfl,_,k0.w.ob,rfl,Amh hL.toR5 hidx hi ⟨wb,rfl,_,k0.w.ob,λ_=>⟨λ_=>by show (0:Int)<=(i:Int);omega,by show ((i:Int)).toNat<L.Ag.length;omega,rfl,Vl ⟨λn z H4=>∃j:Nat,z.1=loV L.Ag[i]+(j:Int)/\j<=U2 L.Ag[i]/\n=U2 L.Ag[i]-j/\∃M4 lv4 m,Wk H H4 wb b M0 M M4 L lv lv4 (hsM m (isF L nx i))/\H4 r=some (.mp (.int .i64) (.int .i64) m)/\H4 c=some (.st Aq (some r))/\mnd m/\(∀x,Ac m x=none↔¬(loV L.Ag[i]<=x/\x<loV L.Ag[i]+(j:Int)))/\m.length=j/\M4.nx<=M.nx+(j:Int),⟨_,0,?_,Nat.zero_le _,rfl,M,lv,[],k0,e1,e2,by simp [mnd],λx=>⟨λ_=>by omega,λ_=>rfl⟩,rfl,by simp⟩,?_⟩⟩⟩⟩
  .show loV L.Ag[i]=loV L.Ag[i]+((0:Nat):Int);omega
  rintro n ⟨x,u⟩ H4 ⟨j,hx0,hj,hn1,M4,lv4,m,k4,hr4,hc4,nd4,key4,Au2,nx4⟩
  have hx:x=loV L.Ag[i]+(j:Int):=hx0
  subst hx
  have l4:=k4.ln
  have lm:(hsM m (isF L nx i)).length=j:=by unfold hsM;rw[List.length_map];exact Au2
  rw[lm]at l4
  refine⟨λhle=>?_,λhle=>?_⟩
  .have hle:loV L.Ag[i]+(j:Int)<=hiV L.Ag[i]:=hle
   have hno:Ac m (loV L.Ag[i]+(j:Int))=none:=(key4 _).2 (by omega)
   have fin:∀{M5:Mn}{lv5 H5},Wk H4 H5 wb b M0 M4 M5 L lv4 lv5 [(M4.nx,isF L nx i (loV L.Ag[i]+(j:Int)))]->M5.nx=M4.nx+1->H5 r=some (.mp (.int .i64) (.int .i64) m)/\H5 c=some (.st Aq (some r))/\∃k<n,∃j2:Nat,loV L.Ag[i]+(j:Int)+1=loV L.Ag[i]+(j2:Int)/\j2<=U2 L.Ag[i]/\k=U2 L.Ag[i]-j2/\∃M6 lv6 m6,Wk H (Ab H5 r (.mp (.int .i64) (.int .i64) (C4 m (loV L.Ag[i]+(j:Int)) M4.nx))) wb b M0 M M6 L lv lv6 (hsM m6 (isF L nx i))/\Ab H5 r (.mp (.int .i64) (.int .i64) (C4 m (loV L.Ag[i]+(j:Int)) M4.nx)) r=some (.mp (.int .i64) (.int .i64) m6)/\Ab H5 r (.mp (.int .i64) (.int .i64) (C4 m (loV L.Ag[i]+(j:Int)) M4.nx)) c=some (.st Aq (some r))/\mnd m6/\(∀x,Ac m6 x=none↔¬(loV L.Ag[i]<=x/\x<loV L.Ag[i]+(j2:Int)))/\m6.length=j2/\M6.nx<=M.nx+(j2:Int):=λ{M5 lv5 H5}k5 nx5=>by
    have a2:H5 c=some (.st Aq (some r)):=by rw[k5.f c (by rw[hc4];simp) d2 n2];exact hc4
    refine⟨by rw[k5.f r (by rw[hr4];simp) d1 n1];exact hr4,a2,U2 L.Ag[i]-(j+1),by omega,j+1,by omega,by omega,rfl,M5,lv5,_,((k4.trans k5).perm (A1o hno)).Ap9 d1 n1 hr,Aj _ _ _,by rw[Ad _ _ (Ne.symm d3)];exact a2,Pm nd4 _ _,λx=>?_,by rw[Rn hno,Au2],by omega⟩;rw[D4];by_cases ex:x=loV L.Ag[i]+(j:Int)
    .rw[if_pos ex];simp;omega
    .rw[if_neg ex,key4];omega
   have ik:InK .i64 (loV L.Ag[i]+(j:Int)+1):=Bk.2 (by omega)
   refine⟨⟨some r,hc4,rfl,?_⟩,?_⟩
   all_goals
    show Wp Y0 Cr Ci (some wb,(i:Int),loV L.Ag[i]+(j:Int),decide (t.Op=(4:Int)),()) H4 _ X
    rw[hnx]
    refine(Wk.of k4.w).Aqa (by omega) (by omega) hL.toR5 hi (by rw[k4.w.bs.n,<-w.bs.n,hS];exact hfit) (hL.Aqa h8 hi (by omega) hle) λM5 lv5 H5 k5 nx5=>?_
    obtain⟨a1,a2,a3⟩:=fin k5 nx5
   .exact⟨r,rfl,m,a1,λ_=>⟨ik,a3⟩⟩
   .exact⟨some r,a2,rfl,r,rfl,m,a1,λ_=>⟨ik,a3⟩⟩
  .have hle:¬loV L.Ag[i]+(j:Int)<=hiV L.Ag[i]:=hle
   have hjc:j=U2 L.Ag[i]:=by omega
   subst hjc
   refine⟨some r,hc4,rfl,post M4 lv4 H4 r m ?_ hr hr4 nd4 (λy hy=>As0 λa e=>?_) (by omega) (by omega)⟩
   .have e:hsM m (gV (Vf L nx i))=hsM m (isF L nx i):=by
     refine List.map_congr_left λp hp=>?_;have hk:=Classical.not_not.1 λh=>absurd ((key4 p.1).2 h) (by rw[Lz nd4 hp];simp);have:gV (Vf L nx i) p.1=isF L nx i p.1:=by funext a;rw[Bool.eq_iff_iff,Rq,Xz hL hi];exact⟨λh=>h.2,λh=>⟨by omega,h⟩⟩
     rw[this]
    rw[e];exact k4
   .have:=((Xz hL hi).1 e).1
    have:=(key4 y).1 hy
    omega
section
def VD(n:Int)(V:B.As->Option Int):Prop:=∀a b:B.As,(∀v,0<=v->v<n->a v=b v)->V a=V b
def VB(V:B.As->Option Int):Prop:=∀a n,V a=some n->-2000000<=n/\n<=2000000
def as8(k:Nat):B.As:=λv=>decide (k/2^v.toNat%2=1)
theorem A60(a:B.As):∃k,k<256/\∀v:Int,0<=v->v<8->a v=as8 k v:=by
 refine⟨Ea a [0,1,2,3,4,5,6,7],Ahv (l:=[0,1,2,3,4,5,6,7]),λv h0 h1=>?_⟩;obtain⟨m,rfl⟩:=Int.eq_ofNat_of_zero_le h0;have hm:m<8:=by omega
 have h:=Yb (a:=a) (l:=[0,1,2,3,4,5,6,7]) (k:=m) hm;have e:([0,1,2,3,4,5,6,7]:List Int)[m]'hm=(m:Int):=by
  have:m=0∨m=1∨m=2∨m=3∨m=4∨m=5∨m=6∨m=7:=by omega
  rcases this with rfl|rfl|rfl|rfl|rfl|rfl|rfl|rfl<;>rfl
 rw[e]at h;show a (m:Int)=decide (Ea a [0,1,2,3,4,5,6,7]/2^(m:Int).toNat%2=1);rw[Bool.eq_iff_iff,decide_eq_true_iff];exact h
theorem Av5{V:B.As->Option Int}(hV:VD 8 V){l:List Int}(hl:l.Nodup)(h:∀n∈l,∃a,V a=some n):l.length<=256:=by
 have h1:=Na (m:=(List.range 256).filterMap λk=>V (as8 k)) hl λn hn=>by obtain⟨a,ha⟩:=h n hn;obtain⟨k,hk,e⟩:=A60 a;exact List.mem_filterMap.2 ⟨k,List.mem_range.2 hk,by rw[<-hV a _ e];exact ha⟩
 have h2:=List.length_filterMap_le (λk=>V (as8 k)) (List.range 256);rw[List.length_range]at h2;omega
def opV(f:Int->Int->Int)(Va Vc:B.As->Option Int):B.As->Option Int:=λa=>(Va a).bind λx=>(Vc a).map (f x)
variable {f:Int->Int->Int} {Va Vc:B.As->Option Int} {a:B.As} {n:Int}
theorem Ase:opV f Va Vc a=some n↔∃x y,Va a=some x/\Vc a=some y/\f x y=n:=by unfold opV;rw[Option.bind_eq_some_iff];simp only[Option.map_eq_some_iff];exact⟨λ⟨x,h1,y,h2,h3⟩=>⟨x,y,h1,h2,h3⟩,λ⟨x,y,h1,h2,h3⟩=>⟨x,h1,y,h2,h3⟩⟩
theorem A00(h1:VD n Va)(h2:VD n Vc):VD n (opV f Va Vc):=λa b e=>by unfold opV;rw[h1 a b e,h2 a b e]
def dsF(f:Int->Int->Int)(Va Vc:B.As->Option Int)(ds:List (Int×Int)):Int->B.Fn:=λn a=>ds.any λp=>decide (f p.1 p.2=n)&&(gV Va p.1 a&&gV Vc p.2 a)
variable {ds:List (Int×Int)}
theorem Atd:dsF f Va Vc ds n a=true↔∃x y,(x,y)∈ds/\f x y=n/\Va a=some x/\Vc a=some y:=by unfold dsF;rw[List.any_eq_true];simp only[Bool.and_eq_true,decide_eq_true_iff,Rq];exact⟨λ⟨p,h1,h2⟩=>⟨p.1,p.2,h1,h2⟩,λ⟨x,y,h1,h2⟩=>⟨(x,y),h1,h2⟩⟩
theorem Ao8{x y:Int}:Aep (dsF f Va Vc ds) (f x y) (Hw (gV Va x) (gV Vc y))=dsF f Va Vc (ds++[(x,y)]):=by
 funext n a;unfold Aep;by_cases h:n=f x y
 .subst h;rw[if_pos rfl];simp [orF,Hw,dsF]
 .have h':¬f x y=n:=λe=>h e.symm;rw[if_neg h];simp [dsF,h']
theorem Ao9{x y:Int}(h:∀a,Hw (gV Va x) (gV Vc y) a=false):dsF f Va Vc (ds++[(x,y)])=dsF f Va Vc ds:=by funext n a;have:=h a;unfold Hw at this;simp [dsF,this]
theorem Atc(h:dsF f Va Vc ds n a=true):opV f Va Vc a=some n:=by obtain⟨x,y,_,h2,h3,h4⟩:=Atd.1 h;exact Ase.2 ⟨x,y,h3,h4,h2⟩
theorem Ate(h:∀x y a,gV Va x a=true->gV Vc y a=true->(x,y)∈ds):dsF f Va Vc ds=gV (opV f Va Vc):=by funext n a;rw[Bool.eq_iff_iff,Rq];refine⟨Atc,λe=>?_⟩;obtain⟨x,y,h1,h2,h3⟩:=Ase.1 e;exact Atd.2 ⟨x,y,h x y a (Rq.2 h1) (Rq.2 h2),h3,h1,h2⟩
structure OpU(r c:Nat)(f:Int->Int->Int)(Va Vc:B.As->Option Int)(ds:List (Int×Int))(H:HY)(hs:List (Int×B.Fn))(m:List (Int×Int)):Prop where
 hs:hs=hsM m (dsF f Va Vc ds)
 c:H c=some (.st Aq (some r))
 r:H r=some (.mp (.int .i64) (.int .i64) m)
 nd:mnd m
 k:∀n,Ac m n=none↔∀a,dsF f Va Vc ds n a=false
theorem OpU.le{r c:Nat}{H:HY}{hs:List (Int×B.Fn)}{m:List (Int×Int)}(u:OpU r c f Va Vc ds H hs m)(h1:VD 8 Va)(h2:VD 8 Vc):m.length<=256:=by
 have:=Av5 (A00 (f:=f) h1 h2) (l:=m.map λ(p:Int×Int)=>p.1) u.nd λn hn=>by have hne:¬∀a,dsF f Va Vc ds n a=false:=λh=>Nb.1 ((u.k n).2 h) hn;obtain⟨a,ha⟩:=Classical.not_forall.1 hne;exact⟨a,Atc (ds:=ds) (by cases e:dsF f Va Vc ds n a with|false=>exact absurd e ha|true=>rfl)⟩
 rw[List.length_map]at this;exact this
end
section
theorem A4n{Hb:HY}{wb b r c:Nat}{M0 Mb:Mn}{L:Ae}{lvb:List (Int×Bool)}{f:Int->Int->Int}{Va Vc:B.As->Option Int}{do_:Int×Int×Int×Unit->HY->(Unit->HP)->PX->Prop}(h1:VD 8 Va)(h2:VD 8 Vc)(d1:r≠wb)(d2:c≠wb)(d3:r≠c)(n1:K0 b M0 r)(n2:K0 b M0 c)(hr:Hb r=none)(hdo:∀x y h H(N:HP)X,(∃a,Va a=some x)->(∃a,Vc a=some y)->H c=some (.st Aq (some r))->Wp Y0 C0 Cp (some wb,some r,f x y,h,()) H (λ_ _ H'=>N H') X->do_ (x,y,h,()) H (λ_ H'=>N H') X):DoU Hb wb b M0 Mb L lvb (gV Va) (gV Vc) (λds H hs=>∃m,OpU r c f Va Vc ds H hs m) r 256 1 do_:=by
 refine⟨λds H hs⟨m,u⟩=>?_,λds H H' hs⟨m,u⟩fr=>⟨m,u.hs,?_,?_,u.nd,u.k⟩,λds H hs x y⟨m,u⟩hz=>⟨m,?_,u.c,u.r,u.nd,?_⟩,λds H hs M lv x y h ctx N X⟨m,u⟩he k hn hl post=>?_⟩
 .rw[u.hs];unfold hsM;rw[List.length_map];exact u.le h1 h2
 .rw[fr c (by rw[u.c];simp) d2 n2];exact u.c
 .rw[fr r (by rw[u.r];simp) d1 n1];exact u.r
 .rw[Ao9 hz];exact u.hs
 .rw[Ao9 hz];exact u.k
 .obtain⟨a,ha⟩:=he;have ha':=ha;unfold Hw at ha';rw[Bool.and_eq_true,Rq,Rq]at ha';refine hdo x y h H N X ⟨a,ha'.1⟩ ⟨a,ha'.2⟩ u.c ?_;have k':=k;rw[u.hs]at k';refine Am6 k' (by omega) (by omega) u.r d1 n1 hr u.nd (λj hj=>funext λa=>(u.k j).1 hj a) λM' lv' H' m' k2 nx2 hr2 nd2 key2 fr2=>?_;rw[Ao8]at k2;refine post M' lv' H' _ k2 ⟨m',rfl,by rw[fr2 c (by rw[u.c];simp) (Ne.symm d3) d2 n2];exact u.c,hr2,nd2,λn=>?_⟩ (by omega) λd a0 a1 a2 a3=>fr2 d a0 a1 a2 a3;rw[key2,u.k,<-Ao8];unfold Aep;by_cases e:n=f x y
  .rw[if_pos e];refine⟨λh=>absurd e h.2,λh=>?_⟩;have:=h a;unfold orF at this;rw[ha,Bool.or_true]at this;cases this
  .rw[if_neg e];exact⟨λh=>h.1,λh=>⟨h,e⟩⟩
def opF(op:Int)(x y:Int):Int:=if op=14 then x+y else if op=15 then x-y else if op=16 then x*y else (x.tmod y+y).tmod y
variable {x y:Int}
theorem A1b(hx:-2000000<=x/\x<=2000000)(hy:-2000000<=y/\y<=2000000):-4000000000000<=x*y/\x*y<=4000000000000:=by
 have h1:(x*y).natAbs<=2000000*2000000:=by rw[Int.natAbs_mul];exact Nat.mul_le_mul (by omega) (by omega)
 omega
theorem Anb(hy:1<=y):-y<x.tmod y/\x.tmod y<y:=by
 have h2:x.tmod y<y:=Int.tmod_lt_of_pos _ (by omega);rcases Int.le_total 0 x with h|h
 .have:=Int.tmod_nonneg y h;omega
 .have e:(-x).tmod y=-(x.tmod y):=Int.neg_tmod ..;have h3:(-x).tmod y<y:=Int.tmod_lt_of_pos _ (by omega);omega
theorem A05{t:A6}{wb r c:Nat}{h:Int}{H:HY}{N:HP}{X:PX}(ht:t.Op=14∨t.Op=15∨t.Op=16∨t.Op=17)(v1:-2000000<=x/\x<=2000000)(v2:-2000000<=y/\y<=2000000)(hm:t.Op=17->1<=y)(hc:H c=some (.st Aq (some r)))(hw:Wp Y0 C0 Cp (some wb,some r,opF t.Op x y,h,()) H (λ_ _ H'=>N H') X):Wp Y0 Gf Eu (x,y,h,t,some wb,some c,()) H (λ(b x:Unit)(H':HY)=>N H') X:=by
 refine U3 _ _ _ _ _ _ _ _ _ ?_;unfold N7;have hmul:=A1b v1 v2;rcases ht with e|e|e|e
 .rw[e]at hw;exact⟨λ_ _ _=>⟨Bk.2 (by omega),c,rfl,_,hc,rfl,hw⟩,λh=>absurd e h⟩
 .rw[e]at hw;exact⟨λh=>by omega,λ_=>⟨λ_ _ _=>⟨Bk.2 (by omega),c,rfl,_,hc,rfl,hw⟩,λh=>absurd e h⟩⟩
 .rw[e]at hw;exact⟨λh=>by omega,λ_=>⟨λh=>by omega,λ_=>⟨λ_ _ _=>⟨Bk.2 (by omega),c,rfl,_,hc,rfl,hw⟩,λh=>absurd e h⟩⟩⟩
 .rw[e]at hw;have hy:=hm e;have m1:=Anb (x:=x) hy;have m2:=Anb (x:=x.tmod y+y) hy;exact⟨λh=>by omega,λ_=>⟨λh=>by omega,λ_=>⟨λh=>by omega,λ_=>⟨λ_ _ _=>⟨by omega,Bk.2 (by omega),λ_ _=>⟨Bk.2 (by omega),λ_ _=>⟨by omega,Bk.2 (by omega),c,rfl,_,hc,rfl,hw⟩⟩⟩,λh=>absurd e h⟩⟩⟩⟩
theorem Auw{L:Ae}{n0:Int}{t ta tc:A6}{Va Vc:B.As->Option Int}{bda ca pka bdc cc pkc W Z:Nat}(ht:t.Op=14∨t.Op=15∨t.Op=16∨t.Op=17)(hk:t.Kids=[ta,tc])(na:Ajf L n0 ta (gV Va) bda ca pka)(nc:Ajf L n0 tc (gV Vc) bdc cc pkc)(h1:VD 8 Va)(h2:VD 8 Vc)(b1:VB Va)(b2:VB Vc)(hm:t.Op=17->∀a y,Vc a=some y->1<=y)(hb1:bda<=20000)(hb2:bdc<=20000)(hW:W=bdc*2)(hZ:Z=bda*W):Ajf L n0 t (gV (opV (opF t.Op) Va Vc)) 256 (ca+cc+Z+2000) (256+bda+bdc+pka+pkc):=by
 intro wb b M0 M lv H X Q w hn hl hS post;refine Kx _ _ _ _ _ ?_;unfold Hn;intro r hr c hc;obtain⟨k0,e1,e2,d1,d2,d3,n1,n2,hcn⟩:=Adl (z:=.st Aq (some r)) w hr hc;generalize Ab (Ab H r (.mp (.int .i64) (.int .i64) [])) c (.st Aq (some r))=H2 at k0 e1 e2;have wln:=w.ln;have k0l:t.Kids[Int.toNat (0:Int)]'(by rw[hk];simp)=ta:=by simp [hk]
 have k1l:t.Kids[Int.toNat (1:Int)]'(by rw[hk];simp)=tc:=by simp [hk]
 refine⟨λh=>by omega,λ_=>⟨λh3=>by omega,λh3=>⟨λh4=>by omega,λh4=>⟨λh5=>by omega,λh5=>⟨λ_=>by omega,by rw[hk];simp,λ_=>by omega,by rw[hk];simp,?_⟩⟩⟩⟩⟩;rw[k0l,k1l];have D:=A4n (Hb:=H) (wb:=wb) (b:=b) (r:=r) (c:=c) (M0:=M0) (Mb:=M) (L:=L) (lvb:=lv) (f:=opF t.Op) (Va:=Va) (Vc:=Vc) (do_:=λ(a:Int×Int×Int×Unit)(H:HY)(Q:Unit->HP)(X:Nat->Lf Y0.D->HP)=>Wp Y0 Gf Eu (a.1,a.2.1,a.2.2.1,t,some wb,some c,()) H (λ(b x:Unit)(H':HY)=>Q () H') X) h1 h2 d1 d2 d3 n1 n2 hr (λx y h H N X⟨a,hx⟩⟨a',hy⟩hcc hw=>by have v1:=b1 a x hx;have v2:=b2 a' y hy;exact A05 ht v1 v2 (λe=>hm e a' y hy) hcc hw)
 refine Aid (ctx:=[]) (hsU:=[]) (k:=by simpa using k0) (u:=⟨[],rfl,e2,e1,by simp [mnd],λn=>by simp [Ac,dsF]⟩) (d:=D) (na:=na) (nc:=nc) hS (by rw[e1];simp) d1 n1 (by omega) (by omega) hW hZ (by omega) (by omega) (by omega) (by simp;omega) λM' lv' H' hsU' ds k'⟨m,u⟩cov nx'=>?_;rw[List.append_nil]at k';refine⟨some r,u.c,rfl,post M' lv' H' r m ?_ hr u.r u.nd (λj hj=>?_) (u.le h1 h2) (by omega)⟩
 .rw[<-Ate (f:=opF t.Op) cov,<-u.hs];exact k'
 .rw[<-Ate (f:=opF t.Op) cov];exact funext ((u.k j).1 hj)
end
section
variable {wb b:Nat} {M0 M M':Mn} {L:Ae} {lv:List (Int×Bool)} {H H':HY}
theorem WK.kp(w:WK H wb b M0 M L lv)(g:MG H' b M')(kp:Kp M M')(f:FrH b M H H'):WK H' wb b M0 M' L lv:=
 ⟨by rw[f.at (by rw[w.ob];simp) w.wn];exact w.ob,g,w.bs.trans kp.bs,w.n0,by rw[kp.nx];exact w.nx,w.nd,w.tr,λh hh=>⟨(kp.Ba h).trans (w.lo h hh).1,(w.lo h hh).2⟩,λh hh=>by rw[kp.Ba];exact w.hi h hh,by rw[kp.hs];exact w.ln⟩
theorem WK.old(w:WK H wb b M0 M L lv)(f:∀c,H c≠none->H' c=H c):WK H' wb b M0 M L lv:=
 ⟨by rw[f wb (by rw[w.ob];simp)];exact w.ob,w.mg.old f,w.bs,w.n0,w.nx,w.nd,w.tr,w.lo,w.hi,w.ln⟩
theorem Has.kp{Mb:Mn}{lvb:List (Int×Bool)}{hs:List (Int×B.Fn)}(h:Has Mb M lvb lv hs)(kp:Kp M M'):Has Mb M' lvb lv hs:=
 ⟨h.nb,h.nd,λp hp=>by rw[kp.nx];exact h.ge p hp,h.get,λp hp=>(kp.Ba _).trans (h.Ba p hp),λk hk=>(kp.Ba k).trans (h.old k hk),h.len,by rw[kp.nx];exact h.nx⟩
theorem Wk.kp{Hb:HY}{Mb:Mn}{lvb:List (Int×Bool)}{hs:List (Int×B.Fn)}(k:Wk Hb H wb b M0 Mb M L lvb lv hs)(g:MG H' b M')(kp:Kp M M')(f:FrH b M H H'):Wk Hb H' wb b M0 Mb M' L lvb lv hs:=k.step (k.w.kp g kp f) (k.h.kp kp) f.w
variable {m:List (Int×Int)}
theorem A0f(hm:mnd m):(m.map (·.1)).map (λn=>(Ac m n).getD 0)=m.map (·.2):=by rw[List.map_map];exact List.map_congr_left λp hp=>by show (Ac m p.1).getD 0=p.2;rw[Lz hm hp];rfl
theorem Ae4{Cq:List Int}(h1:mnd lv)(h2:Cq.Nodup)(h3:∀k∈Cq,(Ac lv k).isSome=true):(lv.filter λp=>decide (p.1∈Cq)).length=Cq.length:=by
 have e:(lv.filter λp=>decide (p.1∈Cq)).map (·.1)=(lv.map (·.1)).filter λk=>decide (k∈Cq):=by rw[List.filter_map];rfl
 have p:((lv.map (·.1)).filter λk=>decide (k∈Cq)).Perm Cq:=by refine(List.perm_ext_iff_of_nodup (List.Pairwise.filter _ h1) h2).2 λa=>?_;rw[List.mem_filter];refine⟨λh=>of_decide_eq_true h.2,λh=>⟨?_,decide_eq_true h⟩⟩;refine Classical.byContradiction λhn=>?_;have:=h3 a h;rw[Nb.2 hn]at this;cases this
 have:=p.length_eq;rw[<-e,List.length_map]at this;exact this
open Classical in
noncomputable def Gq(V:B.As->Option Int)(W:B.Fn)(l:List Int):List Int:=l.filter λn=>decide (∃a,V a=some n/\W a=true)
def Sn(m:List (Int×Int))(l:List Int):List Cm:=l.map λn=>{N:=n,H:=(Ac m n).getD 0}
variable {V:B.As->Option Int} {W:B.Fn} {l:List Int}
open Classical in
theorem Ag3{n:Int}:Gq V W (l++[n])=if ∃a,V a=some n/\W a=true then Gq V W l++[n] else Gq V W l:=by
 unfold Gq;rw[List.filter_append];split
 .rename_i h;simp [h]
 .rename_i h;simp [h]
theorem Au4{n:Int}:n∈Gq V W l↔n∈l/\∃a,V a=some n/\W a=true:=by unfold Gq;rw[List.mem_filter];simp
theorem X3:(Gq V W l).Sublist l:=List.filter_sublist
structure Ari(M M':Mn)(V:B.As->Option Int)(W:B.Fn)(cs:List Cm):Prop where
 bs:F8 M M'
 nx:M.nx<=M'.nx
 ln:M'.hs.length=M.hs.length+cs.length
 srt:(cs.map (·.N)).Pairwise (·<·)
 mem:∀n,n∈cs.map (·.N)↔∃a,V a=some n/\W a=true
 Ba:∀c∈cs,M'.Ba c.H=some (gV V c.N)
 old:∀k F,M.Ba k=some F->M'.Ba k=some F
theorem Awk(hm:mnd m):(Bu m).Pairwise (·<·):=by have h1:(Bu m).Pairwise (·<=·):=(List.pairwise_mergeSort (by intro a b c;simp;omega) (by intro a b;simp;omega) (m.map (·.1))).imp (by simp);have h2:(Bu m).Pairwise (·≠·):=((L9 m).nodup_iff).2 hm;exact(h1.and h2).imp λh=>by omega
theorem Avj{Hb:HY}{Mx:Mn}{wh:Int}(k:Wk Hb H wb b M M Mx L [] lv (hsM m (gV V)++[(wh,W)]))(hm:mnd m)(hz:∀j,Ac m j=none->gV V j=λ_=>false)(e:Az6 M Mx M' lv ((Gq V W (Bu m)).map λn=>(Ac m n).getD 0)):Ari M M' V W (Sn m (Gq V W (Bu m))):=by
 have hsub:∀n∈Gq V W (Bu m),∃h,Ac m n=some h:=λn hn=>by obtain⟨h,e,_⟩:=Xs hm (X3.subset hn);exact⟨h,e⟩
 have hnd:(m.map (·.2)).Nodup:=by
  have:=k.h.nd;rw[List.map_append,List.nodup_append]at this;have h1:=this.1;have:(hsM m (gV V)).map (·.1)=m.map (·.2):=by unfold hsM;rw[List.map_map];rfl
  rw[this]at h1;exact h1
 have hkn:((Gq V W (Bu m)).map λn=>(Ac m n).getD 0).Nodup:=by
  have h1:((Bu m).map λn=>(Ac m n).getD 0).Nodup:=by refine(((L9 m).map _).nodup_iff).2 ?_;rw[A0f hm];exact hnd
  exact(X3.map _).nodup h1
 have hlive:∀n∈Gq V W (Bu m),∃h,Ac m n=some h/\(h,gV V n)∈hsM m (gV V)++[(wh,W)]:=λn hn=>by obtain⟨h,e⟩:=hsub n hn;exact⟨h,e,List.mem_append_left _ (Afj e)⟩
 have get:∀{h F},(h,F)∈hsM m (gV V)++[(wh,W)]->Ac lv h=some true:=λ{h F}hh=>by rw[k.h.get,if_pos (List.mem_map_of_mem hh)]
 refine⟨k.w.bs.trans e.bs,by rw[e.nx];exact k.h.nx,?_,?_,λn=>?_,λc hc=>?_,λj F hj=>?_⟩
 .rw[e.ln,Ae4 k.w.nd hkn λj hj=>?_,List.length_map]
  .unfold Sn;rw[List.length_map]
  .obtain⟨n,hn,rfl⟩:=List.mem_map.1 hj;obtain⟨h,e1,e2⟩:=hlive n hn;show (Ac lv ((Ac m n).getD 0)).isSome=true;rw[e1,Option.getD_some,get e2];rfl
 .unfold Sn;rw[List.map_map];have:(Gq V W (Bu m)).map ((λx:Cm=>x.N)∘λn=>({N:=n,H:=(Ac m n).getD 0}:Cm))=Gq V W (Bu m):=List.map_id _;rw[this];exact(Awk hm).sublist X3
 .unfold Sn;rw[List.map_map];have:(Gq V W (Bu m)).map ((λx:Cm=>x.N)∘λn=>({N:=n,H:=(Ac m n).getD 0}:Cm))=Gq V W (Bu m):=List.map_id _;rw[this,Au4];refine⟨λh=>h.2,λh=>⟨(L9 m).mem_iff.2 (Classical.byContradiction λhn=>?_),h⟩⟩;obtain⟨a,ha,_⟩:=h;have:=congrFun (hz n (Nb.2 hn)) a;rw[Rq.2 ha]at this;cases this
 .unfold Sn at hc;obtain⟨n,hn,rfl⟩:=List.mem_map.1 hc;obtain⟨h,e1,e2⟩:=hlive n hn;show M'.Ba ((Ac m n).getD 0)=some (gV V n);rw[e.Ba,if_neg λhh=>hh.2 (List.mem_map_of_mem hn),e1,Option.getD_some];exact k.h.Ba _ e2
 .have hlt:j<M.nx:=by
   have hM:∃x,Ac M.hs j=some x:=by obtain⟨x,hx,_⟩:=Mn.Ju hj;exact⟨x,hx⟩
   refine Classical.byContradiction λhn=>?_;have:=(k.h.nb j (by omega)).2;rw[hj]at this;cases this
  rw[e.Ba,(k.w.lo j hlt).2,if_neg (by simp),(k.w.lo j hlt).1,hj]
theorem Yt{l:Ae}{t:A6}{X:PX}{Q:List Cm×Int×Unit->UU}(h:Q ([],5,()) () H):Wp Y0 L5 Jt (none,l,t,()) H Q X:=by refine Zr _ _ _ _ _ _ ?_;unfold Ts;exact Qy ⟨λ_=>h,λhn=>absurd (show ¬(5:Int)=0 by decide) hn⟩
theorem Ah3{t:A6}{bd c pk:Nat}{y:Ai}{e:Int}{X:PX}{Q:List Cm×Int×Unit->UU}(hM:MG H b M)(hn:M.nx+(c:Int)<576460752303410000)(hl:M.hs.length+bd+pk<=59000)(hL:Aas L)(hfit:2*Iv L<=M.S.n)(hT:∀(H:HY)(X:PX)(Q:Ai×Int×Unit->UU),(∀H',(∀c,H c≠none->H' c=H c)->Q (y,e,()) () H')->Wp Y0 Lh Iz (L.Ag,t,true,()) H Q X)(na:e=0->y.Bool=false->Ajf L M.S.n t (gV V) bd c pk)(he:e≠0->∀H',MG H' b M->FrO b M H H'->Q ([],e,()) () H')(hb:e=0->y.Bool=true->∀H',MG H' b M->FrO b M H H'->Q ([],13,()) () H')(h0:e=0->y.Bool=false->∀M' H' cs,MG H' b M'->Ari M M' V (Hw (O3 L false L.Ag.length) (O3 L true L.Ag.length)) cs->M'.nx<=M.nx+(c:Int)+7000->FrO b M H H'->Q (cs,0,()) () H'):Wp Y0 L5 Jt (some b,L,t,()) H Q X:=by
 refine Zr _ _ _ _ _ _ ?_;unfold Ts;refine Xk hM hL.toR5 (λhlt=>by omega) λ_ wb H0 hwb w0 f0=>⟨λhh=>absurd rfl hh,λ_=>hT _ _ _ λH1 fT=>⟨λhh=>?_,λhh=>⟨λhh2=>?_,λhh2=>?_⟩⟩⟩
 all_goals
  have w:=w0.old fT
  have f1:∀c,H c≠none->H1 c=H c:=λc hc=>by have e0:=f0 c λe=>hc (by rw[e];exact hwb);rw[fT c (by rw[e0];exact hc),e0]
  clear fT w0 f0
 .exact he hh H1 w.mg λc hc _=>f1 c hc
 .exact hb (Classical.not_not.1 hh) hh2 H1 w.mg λc hc _=>f1 c hc
 have hh:e=0:=Classical.not_not.1 hh;have hh2:y.Bool=false:=by simpa using hh2
 have na':Ajf L M.S.n t (gV V) bd c pk:=na hh hh2;have fix:∀{M':Mn},F8 M M'->M'.S.n=M.S.n:=λe=>e.n;refine Sr w (by omega) (by omega) hL hfit λM2 lv2 H2 r2 k2 nx2=>?_;have l2:=k2.ln;simp only[List.length_cons,List.length_nil]at l2;refine Sr k2.w (by omega) (by omega) hL (by rw[fix k2.w.bs];exact hfit) λM3 lv3 H3 r3 k3 nx3=>?_;have k3':=k2.trans k3;have l3:=k3'.ln;simp only[List.length_append,List.length_cons,List.length_nil]at l3;refine(k3'.perm (.swap _ _ _)).two (by omega) (λhM ha hc=>Ay2 hM (by omega) (by omega) ha hc) λM4 lv4 H4 k4 nx4=>?_;have l4:=k4.ln;simp only[List.length_cons,List.length_nil]at l4;refine na' k4.w (by omega) (by omega) (fix k4.w.bs) λM5 lv5 H5 r m k5 hr0 hr1 hm hz hlm nx5=>?_;have k5':=k4.trans k5;have hrw:r≠wb:=λe=>by rw[e,k4.w.ob]at hr0;cases hr0
 have hrm:K0 b M r:=(k4.w.mg.h.notM hr0).back k4.w.bs;refine Sy (b:=r) hr1 (by omega) λc1 lo r1 r1' hlo=>?_;have k6:=k5'.fresh (y:=.lp r1') hlo;have hr6:Ab H5 lo (.lp r1') r=some (.mp (.int .i64) (.int .i64) m):=by rw[Ad _ _ λe=>by rw[<-e,hr1]at hlo;cases hlo];exact hr1
 generalize Ab H5 lo (.lp r1')=H6 at k6 hr6;generalize hW:Hw (O3 L false L.Ag.length) (O3 L true L.Ag.length)=W at k6 h0;have hsl:=Ac8 m;refine λ_=>⟨λn z H'=>n=m.length-z.2.2.2.1/\z.2.2.2.1<=m.length/\z.2.2.1=Bu m/\z.1=Sn m (Gq V W ((Bu m).take z.2.2.2.1))/\z.2.1=(Gq V W ((Bu m).take z.2.2.2.1)).map (λn=>(Ac m n).getD 0)/\∃M',Wk H1 H' wb b M M M' L [] lv5 (hsM m (gV V)++[(M3.nx,W)])/\H' r=some (.mp (.int .i64) (.int .i64) m)/\M'.nx=M5.nx,⟨_,rfl,Nat.zero_le _,rfl,rfl,rfl,M5,k6,hr6,rfl⟩,?_⟩
 rintro n ⟨cs,kp,ks,j,_⟩ H7 ⟨hn0,hj0,hks0,hcs0,hkp0,M7,k7,hr7,nx7⟩;have hn1:n=m.length-j:=hn0;have hj:j<=m.length:=hj0;have hks:ks=Bu m:=hks0;have hcs:cs=Sn m (Gq V W ((Bu m).take j)):=hcs0;have hkp:kp=(Gq V W ((Bu m).take j)).map (λn=>(Ac m n).getD 0):=hkp0;subst hks hcs hkp;clear hn0 hj0 hks0 hcs0 hkp0;have len:∀{q},(Gq V W ((Bu m).take q)).length<=m.length:=λ{q}=>by have h1:=(X3 (V:=V) (W:=W) (l:=(Bu m).take q)).length_le;rw[List.length_take]at h1;omega
 refine⟨λhjl _=>?_,λhjl=>?_⟩
 .have hjl:j<(Bu m).length:=hjl;obtain⟨h,eh,_⟩:=Xs hm (List.getElem_mem hjl);have mh:=k7.h.Ba (h,gV V (Bu m)[j]) (List.mem_append_left _ (Afj eh));have mw:=k7.h.Ba (M3.nx,W) (by simp);have l7:=k7.ln;have l7':(hsM m (gV V)++[(M3.nx,W)]).length=m.length+1:=by unfold hsM;simp
  rw[l7']at l7;have tk:(Bu m).take (j+1)=(Bu m).take j++[(Bu m)[j]]:=List.take_succ_eq_append_getElem hjl;refine⟨hjl,hjl,r,rfl,m,hr7,?_⟩;show Wp Y0 Si P1 (some b,(Ac m (Bu m)[j]).getD 0,M3.nx,()) H7 _ X;rw[eh,Option.getD_some];refine Als k7.w.mg (by omega) (by simp at l7;omega) mh mw λM8 H8 t ht g8 kp8 f8=>?_;have k8:=k7.kp g8 kp8 f8;have hr8:H8 r=some (.mp (.int .i64) (.int .i64) m):=by rw[f8.at (by rw[hr7];simp) (hrm.same k7.w.bs)];exact hr7
  have hsame:Ab H8 wb (.st C3 ({m:=some b,l:=L,live:=lv5,e:=0}:Ap))=H8:=Q5 k8.w.ob;refine⟨wb,rfl,_,k8.w.ob,λ_=>⟨λhtt=>?_,λhtt=>?_⟩,λh=>absurd rfl h⟩
  .have hex:∃a,V a=some (Bu m)[j]/\W a=true:=by obtain⟨a,h1,h2⟩:=ht.1 htt;exact⟨a,Rq.1 h1,h2⟩
   have q1:Ab H8 wb (.st C3 ({m:=some b,l:=L,live:=lv5,e:=0}:Ap)) r=some (.mp (.int .i64) (.int .i64) m):=by rw[hsame];exact hr8
   have q2:Wk H1 (Ab H8 wb (.st C3 ({m:=some b,l:=L,live:=lv5,e:=0}:Ap))) wb b M M M8 L [] lv5 (hsM m (gV V)++[(M3.nx,W)]):=by rw[hsame];exact k8
   have ln:=len (q:=j);have e1:Gq V W ((Bu m).take (j+1))=Gq V W ((Bu m).take j)++[(Bu m)[j]]:=by rw[tk,Ag3,if_pos hex]
   refine⟨r,rfl,m,q1,?_,r,rfl,m,q1,?_,by show j+1<=_;omega,m.length-(j+1),by omega,rfl,by show j+1<=_;omega,rfl,?_,?_,M8,q2,q1,kp8.nx.trans nx7⟩
   .show ((Sn m (Gq V W ((Bu m).take j))).length+1)*16<=_;unfold Sn;rw[List.length_map];omega
   .show (((Gq V W ((Bu m).take j)).map λn=>(Ac m n).getD 0).length+1)*8<=_;rw[List.length_map];omega
   .show Sn m _++[_]=Sn m (Gq V W ((Bu m).take (j+1)));rw[e1];unfold Sn;rw[List.map_append];rfl
   .show List.map _ _++[_]=List.map _ (Gq V W ((Bu m).take (j+1)));rw[e1,List.map_append];rfl
  .have hex:¬∃a,V a=some (Bu m)[j]/\W a=true:=λ⟨a,h1,h2⟩=>htt (ht.2 ⟨a,Rq.2 h1,h2⟩);have q1:Ab H8 wb (.st C3 ({m:=some b,l:=L,live:=lv5,e:=0}:Ap)) r=some (.mp (.int .i64) (.int .i64) m):=by rw[hsame];exact hr8
   have q2:Wk H1 (Ab H8 wb (.st C3 ({m:=some b,l:=L,live:=lv5,e:=0}:Ap))) wb b M M M8 L [] lv5 (hsM m (gV V)++[(M3.nx,W)]):=by rw[hsame];exact k8
   have e1:Gq V W ((Bu m).take (j+1))=Gq V W ((Bu m).take j):=by rw[tk,Ag3,if_neg hex]
   refine⟨by show j+1<=_;omega,m.length-(j+1),by omega,rfl,by show j+1<=_;omega,rfl,?_,?_,M8,q2,q1,kp8.nx.trans nx7⟩
   .show Sn m _=Sn m (Gq V W ((Bu m).take (j+1)));rw[e1]
   .show List.map _ _=List.map _ (Gq V W ((Bu m).take (j+1)));rw[e1]
 .have hjl:¬j<(Bu m).length:=hjl;have hjm:j=m.length:=by omega
  have tk:(Bu m).take j=Bu m:=List.take_of_length_le (by omega);have ln:=len (q:=j);rw[tk]at ln;rw[tk];refine Ad8 k7.w (by omega) (by rw[List.length_map];omega) λM9 H9 g9 e9 f9=>⟨λh=>absurd rfl h,λ_=>h0 hh hh2 M9 H9 _ g9 (Avj k7 hm hz e9) (by rw[e9.nx];omega) λc hc nc=>?_⟩
  have hcw:c≠wb:=λe=>hc (by rw[e];exact hwb);have e1:=f1 c hc;have e2:=k7.f c (by rw[e1];exact hc) hcw nc;rw[f9 c (by rw[e2,e1];exact hc) hcw (nc.same k7.w.bs),e2,e1]
end
end Go.Proofs.YtcbkbpjlbmalmaaGreatDoor
