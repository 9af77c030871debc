/-
  The chapter's example: its term and its type. (Merged by program out of 22 texts.)
-/
import Derived.Test.YtcbkbpjlbmalmaaGreatDoorTaf
open Int renaming toNat->a5,mul_le_mul_of_nonneg_right->ae,eq_ofNat_of_zero_le->ap,tmod_lt_of_pos->bj
open List renaming getElem?_eq_getElem->a6,take_succ_eq_append_getElem->a8,replicate->aa,length_map->ad,take_of_length_le->af,mem_append_left->ag,perm_append_comm_assoc->ah,length_cons->ai,mem_singleton->aj,getElem_mem->ak,mem_iff_getElem->am,map_append->ao,mem_append_right->aq,range->ar,length_take->au,take->av,getElem?_set_ne->aw,mem_append->ax,map_map->b5,drop->b7,length_eq_zero_iff->b9,length_nil->bc,Perm.append_left->be,nodup_nil->bh,mem_map_of_mem->bi,mem_cons_self->bk,mem_map->bm,nodup_append->bn,mem_range->bv,map->bw,map_id->c7
open Nat renaming zero_le->a7,not_lt_zero->ac,pow_le_pow_right->al,pow_succ->ba,div_div_eq_div_mul->bb,mul_le_mul_right->bf,le_refl->bg,div_one->br,div_le_self->bt,lt_irrefl->bx,succ_mul->bz,pow_zero->c0,mul_comm->c6
open Classical renaming byContradiction->a9,not_not->ab
open Option renaming getD_some->an,some.inj->ay,isSome_iff_exists->b8
open Bool renaming eq_iff_iff->az,and_eq_true->bq
open Go.IntKind (u64)
namespace Go.Proofs.YtcbkbpjlbmalmaaGreatDoor
open Go Go.X Go.Y
section
variable {H:HY} {b:Nat}
theorem Wk.fresh{Hb:HY}{wb r:Nat}{M0 Mb M:Mn}{L:Ac}{lvb lv:List (Int×Bool)}{hs:List (Int×B.Fn)}{y:Ob Y0}(k:Wk Hb H wb b M0 Mb M L lvb lv hs)(a:H r=none):Wk Hb (Ab H r y) wb b M0 Mb M L lvb lv hs:=by
 have f:r≠wb:=λe=>by rw[e,k.w.ob]at a;cases a
 have d:Fb b M r:=k.w.mg.h.notM a;refine⟨k.w.Aac f d,k.h,λc g i h=>?_⟩;by_cases e:c=r
 .subst e;have:=k.f c g i h;grind
 .rw[Ag _ _ e];exact k.f c g i h
theorem Wk.Ao5{Hb:HY}{wb:Nat}{M0 Mb M:Mn}{L:Ac}{lvb lv:List (Int×Bool)}{hs:List (Int×B.Fn)}{p q:Int}{Fa Fc:B.Fn}{X:PX}{R:Int×Unit->UU}(k:Wk Hb H wb b M0 Mb M L lvb lv hs)(r:M.nx<576460752303423486)(l:M.hs.length<=60000)(n:M.Aq p=some Fa)(m:M.Aq q=some Fc)(h:∀M' lv' a,Wk Hb a wb b M0 Mb M' L lvb lv' ((M.nx,C6 Fa Fc)::hs)->M'.nx=M.nx+1->QK wb b M0 H a->R (M.nx,()) () a):qK Cy Ci (some b,[p,q],()) H (λ(j:Int×Int×Unit)(_:Unit)(a:HY)=>qK AJ AD (some wb,j.1,j.2.1,()) a R X) X:=by
 refine MZ k.w.mg (by omega) l (by simp) (Gs:=[Fa,Fc]) (by grind) λM' a g d f=>?_;have e:[Fa,Fc].foldl C6 (λ_=>true)=C6 Fa Fc:=by funext x;rfl
 rw[e]at d;exact L2 k.w g d f λlv' c o _ u i=>h M' lv' c (k.step o (k.h.push u) i) u.nx (i.same k.w.bs)
theorem TN{m:List (Int×Int)}{X:PX}{D:Nat->Nat->Loop->HP}{w:Option Nat}{P:Nat->Nat->Loop->Unit->UU}(q:H b=some (.mp I6 I6 m))(n:m.length<=1000000)(h:∀c l r d x,H l=none->x.Perm (m.map (·.2))->qK Ap Ao (w,x,()) (Ab H l (Ob.lp d)) (P c l r) X):∀(c:Nat),H c=none->∀(l:Nat)(r:Loop),Ab H c (Ob.st Am []) l=none->qK Be AS (YL l c r,some b,()) (Ab (Ab H c (Ob.st Am [])) l (Ob.lp r)) (λ(_ _:Unit)(g:HY)=>(g l=some (Ob.lp r)/\∀(d:Loop),∃(x:List Int),Ab g l (Ob.lp d) c=some (Ob.st Am x)/\qK Ap Ao (w,x,()) (C0 (Ab g l (Ob.lp d)) c) (P c l r) X)∨D c l r g) X:=by
 intro c j l r i;have a:l≠c:=λe=>by grind[Ab]
 have f:H l=none:=by simp_all[Ab]
 refine Ade q j f a n λx p=>.inl ⟨by simp [Ab],λd=>⟨x,by simp [Ab,Ne.symm a],?_⟩⟩;have o:C0 (Ab (Ab (Ab H c (Ob.st Am x)) l (Ob.lp r)) l (Ob.lp d)) c=Ab H l (Ob.lp d):=by funext k;simp_all[Ab,C0,Ne.symm]
 grind
def Uh(L:Ac)(n0:Int)(t:Ae)(G:Int->B.Fn)(bd c pk:Nat):Prop:=∀{wb b:Nat}{M0 M:Mn}{lv:List (Int×Bool)}{H:HY}{X:PX}{Q:Option Nat×Unit->UU},WK H wb b M0 M L lv->M.nx+(c:Int)<576460752303420000->M.hs.length+pk<=59900->M.S.n=n0->(∀M' lv' H' r m,Wk H H' wb b M0 M M' L lv lv' (Jm m G)->H r=none->H' r=some (.mp I6 I6 m)->N9 m->(∀j,Ad m j=none->G j=λ_=>false)->m.length<=bd->M'.nx<=M.nx+(c:Int)->Q (some r,()) () H')->qK CN Co (some wb,t,()) H Q X
end
theorem Ail{Hb H:HY}{wb b:Nat}{M0 Mb M:Mn}{L:Ac}{lvb lv:List (Int×Bool)}{hs:List (Int×B.Fn)}{hp hq x y:Int}{Fa Fc:B.Fn}{J3:Int×Int×Int×Unit->HY->(Unit->HP)->PX->Prop}{X:PX}{N:HP}(k:Wk Hb H wb b M0 Mb M L lvb lv hs)(Q:M.nx<576460752303423480)(K:M.hs.length<=60000)(z:M.Aq hp=some Fa)(D:M.Aq hq=some Fc)(i:(∀a,C6 Fa Fc a=false)->∀M' lv' c,Wk Hb c wb b M0 Mb M' L lvb lv' hs->M'.nx=M.nx+1->QK wb b M0 H c->N c)(n:(∃a,C6 Fa Fc a=true)->∀M' lv' c,Wk Hb c wb b M0 Mb M' L lvb lv' ((M.nx,C6 Fa Fc)::hs)->M'.nx=M.nx+1->QK wb b M0 H c->J3 (x,y,M.nx,()) c (λ(_:Unit)(m:HY)=>N m) X):qK Cy Ci (some b,[hp,hq],()) H (λ(b:Int×Int×Unit)(_:Unit)(c:HY)=>qK AJ AD (some wb,b.1,b.2.1,()) c (λ(b:Int×Unit)(_:Unit)(c:HY)=>∃(d:Al),c wb=some (Ob.st BJ d)/\d=d/\qK CQ CB (d.m,b.1,(0:Int),()) c (λ(f:Bool×Int×Unit)(_:Unit)(c:HY)=>(f.1=true->qK Ap Ao (some wb,[b.1],()) c (λ(_ _:Unit)(c:HY)=>N c) X)/\(¬f.1=true->(¬f.2.1=(0:Int)->qK Ap Ao (some wb,[b.1],()) c (λ(_ _:Unit)(c:HY)=>N c) X)/\(¬¬f.2.1=(0:Int)->J3 (x,y,b.1,()) c (λ(_:Unit)(c:HY)=>N c) X))) X) X) X:=by
 refine k.Ao5 (by omega) K z D λM' lv' c g r u=>⟨_,g.w.ob,rfl,?_⟩
 have j:=g.h.Aq (M.nx,C6 Fa Fc) (by simp);have j:M'.Aq M.nx=some (C6 Fa Fc):=j;refine TC g.w.mg.h g.w.mg.i (λC=>?_) λF G l v t s=>?_
 .rcases C with e|e
  .grind
  .rw[g.w.mg.i.Aa7]at e;cases e
 .have l:M'.Aq M.nx=some F:=l;rw[j]at l;cases l;rw[g.w.mg.i.Aa7]at v;cases v;refine⟨λp=>?_,λh=>⟨λA=>qG rfl A,λ_=>?_⟩⟩
  .have O:=s.1 p;refine Wk.drop (hs1:=[(M.nx,C6 Fa Fc)]) (hs:=hs) g (by omega) (by simp) (.refl _) λP q w E I J=>?_;exact i (λa=>congrFun O a) P q w E (by omega) (u.trans J)
  grind
theorem Ur{m:List (Int×Int)}{G:Int->B.Fn}{j:Int}{h:Int}(e:Ad m j=some h):(h,G j)∈Jm m G:=bm.2 ⟨(j,h),II e,rfl⟩
theorem Pe{m:List (Int×Int)}(_:N9 m){j:Int}(a:j∈AI m):∃h,Ad m j=some h/\(Ad m j).getD 0=h:=by
 have b:=(DW m).mem_iff.1 a;cases e:Ad m j with
 |none=>grind[Er]
 |some h=>simp
structure PrS(Hb H:HY)(wb b:Nat)(M0 Mb M:Mn)(L:Ac)(lvb lv:List (Int×Bool))(hsU ctx:List (Int×B.Fn))(Ga Gc:Int->B.Fn)(mp mq:List (Int×Int))(rp rq:Nat)(U:List (Int×Int)->HY->List (Int×B.Fn)->Prop)(ds:List (Int×Int)):Prop where
 k:Wk Hb H wb b M0 Mb M L lvb lv (hsU++(Jm mq Gc++(Jm mp Ga++ctx)))
 u:U ds H hsU
 p:H rp=some (.mp I6 I6 mp)
 q:H rq=some (.mp I6 I6 mq)
structure DoU(Hb:HY)(wb b:Nat)(M0 Mb:Mn)(L:Ac)(lvb:List (Int×Bool))(Ga Gc:Int->B.Fn)(U:List (Int×Int)->HY->List (Int×B.Fn)->Prop)(ub bu cu:Nat)(J3:Int×Int×Int×Unit->HY->(Unit->HP)->PX->Prop):Prop where
 le:∀ds H hs,U ds H hs->hs.length<=bu
 st:∀ds H H' hs,U ds H hs->QK wb b M0 H H'->U ds H' hs
 skip:∀ds H hs x y,U ds H hs->(∀a,C6 (Ga x) (Gc y) a=false)->U (ds++[(x,y)]) H hs
 J3:∀(ds:List (Int×Int))(H:HY)(hs:List (Int×B.Fn))(M:Mn)(lv:List (Int×Bool))(x y h:Int)(ctx:List (Int×B.Fn))(N:HP)(X:PX),U ds H hs->(∃a,C6 (Ga x) (Gc y) a=true)->Wk Hb H wb b M0 Mb M L lvb lv ((h,C6 (Ga x) (Gc y))::(hs++ctx))->M.nx+(cu:Int)<576460752303423470->M.hs.length<=59990->
  (∀M' lv' H' hs',Wk Hb H' wb b M0 Mb M' L lvb lv' (hs'++ctx)->U (ds++[(x,y)]) H' hs'->M'.nx<=M.nx+(cu:Int)->(∀c,H c≠none->c≠ub->c≠wb->Fb b M0 c->H' c=H c)->N H')->J3 (x,y,h,()) H (λ_ H'=>N H') X
theorem Aqu{Hb H:HY}{wb b rp rq ub bu o:Nat}{M0 Mb M:Mn}{L:Ac}{lvb lv:List (Int×Bool)}{hsU ctx:List (Int×B.Fn)}{Ga Gc:Int->B.Fn}{mp mq:List (Int×Int)}{U:List (Int×Int)->HY->List (Int×B.Fn)->Prop}{ds:List (Int×Int)}{x y:Int}{J3:Int×Int×Int×Unit->HY->(Unit->HP)->PX->Prop}{X:PX}{N:HP}(s:PrS Hb H wb b M0 Mb M L lvb lv hsU ctx Ga Gc mp mq rp rq U ds)(d:DoU Hb wb b M0 Mb L lvb Ga Gc U ub bu o J3)(S:M.nx+(o:Int)<576460752303423460)(R:M.hs.length<=59900)(I:(Ad mp x).isSome=true)(A:(Ad mq y).isSome=true)(e:rp≠ub/\rp≠wb/\Fb b M0 rp)(c:rq≠ub/\rq≠wb/\Fb b M0 rq)(h:∀M' lv' a hsU',PrS Hb a wb b M0 Mb M' L lvb lv' hsU' ctx Ga Gc mp mq rp rq U (ds++[(x,y)])->M'.nx<=M.nx+(o:Int)+1->N a):qK Cy Ci (some b,[(Ad mp x).getD (0:Int),(Ad mq y).getD (0:Int)],()) H (λ(b:Int×Int×Unit)(_:Unit)(a:HY)=>qK AJ AD (some wb,b.1,b.2.1,()) a (λ(b:Int×Unit)(_:Unit)(a:HY)=>∃(f:Al),a wb=some (Ob.st BJ f)/\f=f/\qK CQ CB (f.m,b.1,(0:Int),()) a (λ(g:Bool×Int×Unit)(_:Unit)(a:HY)=>(g.1=true->qK Ap Ao (some wb,[b.1],()) a (λ(_ _:Unit)(a:HY)=>N a) X)/\(¬g.1=true->(¬g.2.1=(0:Int)->qK Ap Ao (some wb,[b.1],()) a (λ(_ _:Unit)(a:HY)=>N a) X)/\(¬¬g.2.1=(0:Int)->J3 (x,y,b.1,()) a (λ(_:Unit)(a:HY)=>N a) X))) X) X) X:=by
 obtain⟨w,q⟩:=b8.1 I;obtain⟨z,v⟩:=b8.1 A;rw[q,v,an,an];have J:=s.k.h.Aq (w,Ga x) (aq _ (aq _ (ag _ (Ur q))));have P:=s.k.h.Aq (z,Gc y) (aq _ (ag _ (Ur v)));have k:H rp≠none:=by rw[s.p];simp
 have j:H rq≠none:=by rw[s.q];simp
 refine Ail s.k (by omega) (by omega) J P (λD M' lv' a l m i=>?_) λG M' lv' a l m i=>?_
 .exact h M' lv' a hsU ⟨l,d.skip _ _ _ _ _ (d.st _ _ _ _ s.u i) D,by rw[i rp k e.2.1 e.2.2];exact s.p,by rw[i rq j c.2.1 c.2.2];exact s.q⟩ (by omega)
 .have r:a rp=some (.mp I6 I6 mp):=by rw[i rp k e.2.1 e.2.2];exact s.p
  have u:a rq=some (.mp I6 I6 mq):=by rw[i rq j c.2.1 c.2.2];exact s.q
  have T:=s.k.ln;have Q:=l.ln;rw[ai]at Q;refine d.J3 ds a hsU M' lv' x y M.nx _ N X (d.st _ _ _ _ s.u i) G l (by omega) (by omega) λK n O p F E C t=>?_;exact h K n O p ⟨F,E,by grind,by grind⟩ (by omega)
theorem PrS.fresh{Hb H:HY}{wb b rp rq ub bu cu l:Nat}{M0 Mb M:Mn}{L:Ac}{lvb lv:List (Int×Bool)}{hsU ctx:List (Int×B.Fn)}{Ga Gc:Int->B.Fn}{mp mq:List (Int×Int)}{U:List (Int×Int)->HY->List (Int×B.Fn)->Prop}{ds:List (Int×Int)}{y:Ob Y0}{J3:Int×Int×Int×Unit->HY->(Unit->HP)->PX->Prop}(s:PrS Hb H wb b M0 Mb M L lvb lv hsU ctx Ga Gc mp mq rp rq U ds)(d:DoU Hb wb b M0 Mb L lvb Ga Gc U ub bu cu J3)(f:H l=none):PrS Hb (Ab H l y) wb b M0 Mb M L lvb lv hsU ctx Ga Gc mp mq rp rq U ds:=by have a:∀{c},H c≠none->c≠l:=λh e=>h (by grind);exact⟨s.k.fresh f,d.st _ _ _ _ s.u λc g _ _=>Ag _ _ (a g),by rw[Ag _ _ (a (by rw[s.p];simp))];exact s.p,by rw[Ag _ _ (a (by rw[s.q];simp))];exact s.q⟩
theorem PJ{Hb H:HY}{wb b ub bu K W Z:Nat}{M0 Mb M:Mn}{L:Ac}{lvb lv:List (Int×Bool)}{hsU ctx:List (Int×B.Fn)}{ta tb:Ae}{Ga Gc:Int->B.Fn}{bda ca pka bdc cc pkc:Nat}{n0:Int}{U:List (Int×Int)->HY->List (Int×B.Fn)->Prop}{J3:Int×Int×Int×Unit->HY->(Unit->HP)->PX->Prop}{X:PX}{Q:Unit->UU}(k:Wk Hb H wb b M0 Mb M L lvb lv (hsU++ctx))(u:U [] H hsU)(d:DoU Hb wb b M0 Mb L lvb Ga Gc U ub bu K J3)(na:Uh L n0 ta Ga bda ca pka)(nc:Uh L n0 tb Gc bdc cc pkc)(hS:M.S.n=n0)(O:H ub≠none)(hubw:ub≠wb)(hubm:Fb b M0 ub)(_:bda<=100000)(hb2:bdc<=100000)(hW:W=bdc*(K+1))(hZ:Z=bda*W)(hn:M.nx+(ca:Int)+(cc:Int)+(Z:Int)+(K:Int)<576460752303419000)(hl1:M.hs.length+pka<=59900)(hl2:M.hs.length+bda+pkc<=59900)(hl3:M0.hs.length+lvb.length+ctx.length+bu+bda+bdc<=59900)(post:∀M' lv' H' hsU' ds,Wk Hb H' wb b M0 Mb M' L lvb lv' (hsU'++ctx)->U ds H' hsU'->(∀x y a,Ga x a=true->Gc y a=true->(x,y)∈ds)->M'.nx<=M.nx+(ca:Int)+(cc:Int)+(Z:Int)->Q () () H'):qK Il Fq (some wb,ta,tb,J3,()) H Q X:=by
 refine wF Tryz.f135 {lp:=[(6,⟨[(25,.one (.own I6)),(33,.one (.own I6)),(35,.nat)],[0,3,8,9,11,25,26,27,33,34],true⟩),(3,⟨[(25,.one (.own I6)),(27,.nat)],[0,3,8,9,25,26],true⟩)],im:=[5,6],il:=ilT} (?_:Lu (some wb) ta tb J3 H Q X);unfold Lu;have wln:=k.w.ln;refine na k.w (by omega) hl1 hS λM1 lv1 H1 w mp P D hrp1 mndp zp lp nx1=>?_;have k1l:=P.ln;have lhp:(Jm mp Ga).length=mp.length:=ad _;refine nc P.w (by omega) (by omega) (P.w.bs.n.trans (k.w.bs.n.symm.trans hS)) λM2 lv2 H2 A g k2 E hrq1 mndq zq lq nx2=>?_;have lhq:(Jm g Gc).length=g.length:=ad _;have V:w≠wb:=λe=>by rw[e,k.w.ob]at D;cases D
 have hrqw:A≠wb:=λe=>by rw[e,P.w.ob]at E;cases E
 have S:Fb b M0 w:=(k.w.mg.h.notM D).back k.w.bs;have R:Fb b M0 A:=(P.w.mg.h.notM E).back P.w.bs;have hrpu:w≠ub:=λe=>O (e▸D);have hrqu:A≠ub:=λe=>by have:=P.f ub O hubw hubm;grind
 have e1:H2 w=some (.mp I6 I6 mp):=by rw[k2.f w (by grind) V S];omega
 have S0:PrS Hb H2 wb b M0 Mb M2 L lvb lv2 hsU ctx Ga Gc mp g w A U []:=by refine⟨((k.trans P).trans k2).perm ?_,d.st _ _ _ _ u (P.f.trans k2.f),e1,hrq1⟩;grind[ah,Jm,trans,be]
 have hkp:=Pd mp;have hkq:=Pd g;have bound:∀{M':Mn}{H':HY}{lv' F ds},PrS Hb H' wb b M0 Mb M' L lvb lv' F ctx Ga Gc mp g w A U ds->M'.hs.length<=59900:=λ{M' H' lv' F ds}s=>by have h1:=s.k.ln;have h2:=d.le _ _ _ s.u;grind
 refine JB (b:=w) e1 (by omega) λc l r r' hl=>?_;have S1:=S0.fresh (y:=.lp r') d hl;generalize Ab H2 l (Ob.lp r')=H3 at S1;refine λ_=>⟨λn z H'=>n=mp.length-z.2.1/\z.2.1<=mp.length/\z.1=AI mp/\∃M' lv' F ds,PrS Hb H' wb b M0 Mb M' L lvb lv' F ctx Ga Gc mp g w A U ds/\(∀x∈(AI mp).take z.2.1,∀y∈AI g,(x,y)∈ds)/\M'.nx+((n*W:Nat):Int)<=M.nx+(ca:Int)+(cc:Int)+(Z:Int),⟨_,rfl,a7 _,rfl,M2,lv2,hsU,[],S1,by simp,?_⟩,?_⟩
 .have:mp.length*W<=Z:=by simp_all[bf]
  grind
 rintro n ⟨kp,i,_⟩ H4 ⟨hn0,hi0,v,M4,lv4,I,N,S4,C,nx4⟩;have hn1:n=mp.length-i:=hn0;have hi:i<=mp.length:=hi0;have hkp1:kp=AI mp:=v;subst hkp1;replace C:∀x∈(AI mp).take i,∀y∈AI g,(x,y)∈N:=C;refine⟨λp _=>?_,λp=>?_⟩
 .have p:i<(AI mp).length:=p;refine⟨p,p,JB (b:=A) S4.q (by omega) λc2 l2 r2 r2' hl2'=>?_⟩;have T:=S4.fresh (y:=.lp r2') d hl2';generalize Ab H4 l2 (Ob.lp r2')=H5 at T;obtain⟨n',hn'⟩:∃n',n=n'+1:=⟨n-1,by omega⟩
  have hsplit:n*W=n'*W+W:=by rw[hn',bz]
  have hxs:∀(hh:i<(AI mp).length),(Ad mp ((AI mp)[i]'hh)).isSome=true:=λhh=>by grind[Pe,ak]
  refine λ_=>⟨λn1 z H'=>n1=g.length-z.2.2.1/\z.2.2.1<=g.length/\z.1=AI mp/\z.2.1=AI g/\∃M' lv' F ds,PrS Hb H' wb b M0 Mb M' L lvb lv' F ctx Ga Gc mp g w A U ds/\(∀x∈(AI mp).take i,∀y∈AI g,(x,y)∈ds)/\(∀y∈(AI g).take z.2.2.1,((AI mp)[i],y)∈ds)/\M'.nx+((n1*(K+1):Nat):Int)+((n'*W:Nat):Int)<=M.nx+(ca:Int)+(cc:Int)+(Z:Int),⟨_,rfl,a7 _,rfl,rfl,M4,lv4,I,N,T,C,by simp,?_⟩,?_⟩
  .have:g.length*(K+1)<=W:=by simp_all[bf]
   grind
  rintro n1 ⟨kp2,kq,j,_⟩ H6 ⟨hn60,hj0,v,hkq0,M6,lv6,hs6,J,t,Y,q,nx6⟩;have hn6:n1=g.length-j:=hn60;have hj:j<=g.length:=hj0;have hkp2:kp2=AI mp:=v;have hkq2:kq=AI g:=hkq0;subst hkp2 hkq2;replace q:∀y∈(AI g).take j,((AI mp)[i],y)∈J:=q;refine⟨λo _=>?_,λo=>?_⟩
  .have o:j<(AI g).length:=o;have hys:(Ad g ((AI g)[j]'o)).isSome=true:=by obtain⟨h,e,_⟩:=Pe mndq (ak o);rw[e];rfl
   obtain⟨n2,hn2⟩:∃n2,n1=n2+1:=⟨n1-1,by omega⟩
   have hsp2:n1*(K+1)=n2*(K+1)+(K+1):=by rw[hn2,bz]
   have b6:=bound t;have cov:∀x∈(AI mp).take i,∀y∈AI g,(x,y)∈J++[((AI mp)[i],(AI g)[j])]:=λx hx y hy=>ag _ (Y x hx y hy);have cov':∀y∈(AI g).take (j+1),((AI mp)[i],y)∈J++[((AI mp)[i],(AI g)[j])]:=λy hy=>by
    rw[a8 o,ax,aj]at hy;rcases hy with e|e
    .exact ag _ (q y e)
    .rw[e];simp
   refine⟨o,o,wb,rfl,⟨_,t.k.w.ob,⟨rfl,w,rfl,mp,t.p,A,rfl,g,t.q,?_⟩,rfl,A,rfl,g,t.q,w,rfl,mp,t.p,?_⟩,⟨w,rfl,mp,t.p,⟨_,t.k.w.ob,rfl,A,rfl,g,t.q,?_⟩,A,rfl,g,t.q,Sf ⟨_,t.k.w.ob,rfl,?_⟩⟩,A,rfl,g,t.q,⟨_,t.k.w.ob,rfl,w,rfl,mp,t.p,?_⟩,w,rfl,mp,t.p,Sf ⟨_,t.k.w.ob,rfl,?_⟩⟩;all_goals exact Aqu t d (by omega) b6 (hxs p) hys ⟨hrpu,V,S⟩ ⟨hrqu,hrqw,R⟩ λM7 lv7 H7 hs7 S7 nx7=>⟨by show j+1<=_;omega,n2,by omega,by show n2=g.length-(j+1);omega,by show j+1<=_;omega,rfl,rfl,M7,lv7,hs7,_,S7,cov,cov',by omega⟩
  .have o:¬j<(AI g).length:=o;have cov:∀x∈(AI mp).take (i+1),∀y∈AI g,(x,y)∈J:=λx hx y hy=>by
    rw[a8 p,ax,aj]at hx;rcases hx with e|e
    .exact Y x e y hy
    .rw[e];exact q y (by rw[af (by omega)];exact hy)
   exact⟨by show i+1<=_;omega,n',by omega,by show n'=mp.length-(i+1);omega,by show i+1<=_;omega,rfl,M6,lv6,hs6,J,t,cov,by omega⟩
 .have p:¬i<(AI mp).length:=p;have hfst:∀{m:List (Int×Int)}{G:Int->B.Fn},(Jm m G).map (·.1)=m.map (·.2):=λ{m G}=>by unfold Jm;rw[b5];rfl
  refine TN (b:=w) S4.p (by omega) λc5 l5 r5 r5' x5 hl5 hx5=>?_;have T:=S4.fresh (y:=.lp r5') d hl5;generalize Ab H4 l5 (Ob.lp r5')=H5 at T;have lx5:=hx5.length_eq;rw[ad]at lx5;have kk:Wk Hb H5 wb b M0 Mb M4 L lvb lv4 (Jm mp Ga++(Jm g Gc++(I++ctx))):=by refine T.k.perm ?_;refine List.Perm.trans ?_ (ah (Jm g Gc) I _);refine(ah (Jm mp Ga) (Jm g Gc) _).trans (be _ ?_);exact ah (Jm mp Ga) I ctx
  refine Wk.drop kk (by omega) (by omega) (by rw[hfst];exact hx5) λM7 lv7 H7 k7 nx7 f7=>?_;have q7:H7 A=some (.mp I6 I6 g):=by rw[f7 A (by rw[T.q];simp) hrqw R];exact T.q
  refine TN (b:=A) q7 (by omega) λc8 l8 r8 r8' x8 hl8 hx8=>?_;have lx8:=hx8.length_eq;rw[ad]at lx8;have k8:=k7.fresh (y:=.lp r8') hl8;have u8:U N (Ab H7 l8 (Ob.lp r8')) I:=d.st _ _ _ _ (d.st _ _ _ _ T.u f7) λc a0 _ _=>Ag _ _ λe=>a0 (by rw[e];exact hl8);generalize Ab H7 l8 (Ob.lp r8')=H8 at k8 u8;refine Wk.drop k8 (by omega) (by omega) (by rw[hfst];exact hx8) λM9 lv9 H9 k9 nx9 f9=>?_;refine post M9 lv9 H9 I N k9 (d.st _ _ _ _ u8 f9) (λx y a hxa hya=>?_) (by omega);refine C x ?_ y ?_
  .rw[af (by omega)];refine(DW mp).mem_iff.2 (a9 λhne=>?_);rw[zp x (Er.2 hne)]at hxa;cases hxa
  .refine(DW g).mem_iff.2 (a9 λhne=>?_);rw[zq y (Er.2 hne)]at hya;cases hya
section
set_option maxRecDepth 100000
set_option maxHeartbeats 2000000
def Jb(x y h:Int)(p3:Ae)(p4 p5:Option Nat)(H:HY)(Q:UT->UU)(X:PX):=(p3.Op=14->IK x->IK y->IK (x+y)/\∃(b:Nat),p5=some b/\∃(x1:Option Nat),H b=some (Ob.st Ak x1)/\x1=x1/\qK Cb BQ (p4,x1,x+y,h,()) H (λ(_ _:UT)(G:HY)=>Q () () G) X)/\(¬p3.Op=14->(p3.Op=15->IK x->IK y->IK (x-y)/\∃(b:Nat),p5=some b/\∃(x1:Option Nat),H b=some (Ob.st Ak x1)/\x1=x1/\qK Cb BQ (p4,x1,x-y,h,()) H (λ(_ _:UT)(G:HY)=>Q () () G) X)/\(¬p3.Op=15->(p3.Op=16->IK x->IK y->IK (x*y)/\∃(b:Nat),p5=some b/\∃(x1:Option Nat),H b=some (Ob.st Ak x1)/\x1=x1/\qK Cb BQ (p4,x1,x*y,h,()) H (λ(_ _:UT)(G:HY)=>Q () () G) X)/\(¬p3.Op=16->(p3.Op=17->IK x->IK y->¬y=0/\IK (x.tmod y)/\(IK (x.tmod y)->IK y->IK (x.tmod y+y)/\(IK (x.tmod y+y)->IK y->¬y=0/\IK ((x.tmod y+y).tmod y)/\∃(b:Nat),p5=some b/\∃(x1:Option Nat),H b=some (Ob.st Ak x1)/\x1=x1/\qK Cb BQ (p4,x1,(x.tmod y+y).tmod y,h,()) H (λ(_ _:UT)(G:HY)=>Q () () G) X)))/\(¬p3.Op=17->∃(b:Nat),p5=some b/\∃(x1:Option Nat),H b=some (Ob.st Ak x1)/\x1=x1/\qK Cb BQ (p4,x1,x,h,()) H (λ(_ _:UT)(G:HY)=>Q () () G) X))))
theorem Ni x y h p3 p4 p5 H Q X(h_:Jb x y h p3 p4 p5 H Q X):qK DK CT (x,y,h,p3,p4,p5,()) H Q X:=wF Tryz.f136 {} h_
def Kk(w:Option Nat)(a b:Ae)(holds:Int×Int×UT->HY->(Bool×UT->HP)->PX->Prop)(H:HY)(Q:Int×UT->UU)(X:PX):=qK BN B8 (w,false,()) H (λ(b1:Int×UT)_ G=>∀(b2:Nat),G b2=none->qK Il Fq (w,a,b,λ(a:Int×Int×Int×UT)(H:HY)(Q:UT->HP)(X:Nat->Lf Y0.D->HP)=>qK Fz DI (a.1,a.2.1,a.2.2.1,holds,w,some b2,()) H (λ(_ _:UT)(G:HY)=>Q () G) X,()) (Ab G b2 (Ob.st Ba b1.1)) (λ(_ _:UT)(G:HY)=>∃(x:Int),G b2=some (Ob.st Ba x)/\x=x/\Q (x,()) () G) X) X
def Jc(x y h:Int)(p3:Int×Int×UT->HY->(Bool×UT->HP)->PX->Prop)(p4 p5:Option Nat)(H:HY)(Q:UT->UU)(X:PX):=p3 (x,y,()) H (λ(b:Bool×UT)(G:HY)=>(b.1->∃(b:Nat),p5=some b/\∃(x:Int),G b=some (Ob.st Ba x)/\x=x/\qK Bk AY (p4,λ(a:Option Nat×List Int×UT)(H:HY)(Q:Int×Int×UT->HP)(X:Nat->Lf Y0.D->HP)=>qK IS Hx (a.1,a.2.1,()) H (λ(b:Int×Int×UT)(_:UT)(G:HY)=>Q (b.1,b.2.1,()) G) X,[x,h],()) G (λ(b1:Int×UT)_ G=>∃(x:Int),G b=some (Ob.st Ba x)/\Q () () (Ab G b (Ob.st Ba b1.1))) X)/\(¬b.1->qK Ap Ao (p4,[h],()) G (λ(_ _:UT)(G:HY)=>Q () () G) X)) X
theorem Nj x y h p3 p4 p5 H Q X(h_:Jc x y h p3 p4 p5 H Q X):qK Fz DI (x,y,h,p3,p4,p5,()) H Q X:=wF Tryz.f171 {} h_
def Kj(J3:Option Nat×Int×Int×UT->HY->(Int×Int×UT->HP)->PX->Prop)(p1:Option Nat)(p2:UT->HY->(List Int×UT->HP)->PX->Prop)(H:HY)(Q:Int×UT->UU)(X:PX):=dup (p2 () H (λ(b:List Int×UT)(G:HY)=>qK Bk AY (p1,λ(a:Option Nat×List Int×UT)(H:HY)(Q:Int×Int×UT->HP)(X:Nat->Lf Y0.D->HP)=>qK IX Fp (a.1,a.2.1,J3,()) H (λ(b:Int×Int×UT)(_:UT)(G:HY)=>Q (b.1,b.2.1,()) G) X,b.1,()) G (λ(b:Int×UT)_ G=>Q (b.1,()) () G) X) X)
theorem ON J3 p1 p2 H Q X(h_:Kj J3 p1 p2 H Q X):qK CM Cm (J3,p1,p2,()) H Q X:=wF Tryz.f94 {im:=[3]} h_
def Ja(m:Option Nat)(l:List Int)(p2:Option Nat×Int×Int×UT->HY->(Int×Int×UT->HP)->PX->Prop)(H:HY)(Q:Int×Int×UT->UU)(X:PX):=(True->(0:Int)<=0)/\∃(h:a5 (0:Int)<l.length),(True->(0:Int)<=1)/\∃(h1:a5 (1:Int)<l.length),p2 (m,l[a5 (0:Int)],l[a5 (1:Int)],()) H (λ(b:Int×Int×UT)(G:HY)=>Q (b.1,b.2.1,()) () G) X
theorem Nh m l p2 H Q X(h_:Ja m l p2 H Q X):qK IX Fp (m,l,p2,()) H Q X:=wF Tryz.f95 {} h_
def Ki(m:Option Nat)(l:List Int)(H:HY)(Q:Int×Int×UT->UU)(X:PX):=(True->(0:Int)<=0)/\∃(h:a5 (0:Int)<l.length),qK KN IF (m,l[a5 (0:Int)],()) H (λ(b:Int×Int×UT)_ G=>Q (b.1,b.2.1,()) () G) X
theorem OM m l H Q X(h_:Ki m l H Q X):qK Ke Gt (m,l,()) H Q X:=wF Tryz.f97 {} h_
def Kh(m:Option Nat)(l:List Int)(H:HY)(Q:Int×Int×UT->UU)(X:PX):=(True->(0:Int)<=0)/\∃(h:a5 (0:Int)<l.length),(True->(0:Int)<=1)/\∃(h1:a5 (1:Int)<l.length),(True->(0:Int)<=2)/\∃(h2:a5 (2:Int)<l.length),qK Sa MS (m,l[a5 (0:Int)],l[a5 (1:Int)],l[a5 (2:Int)],()) H (λ(b:Int×Int×UT)_ G=>Q (b.1,b.2.1,()) () G) X
theorem OK m l H Q X(h_:Kh m l H Q X):qK Kd Gr (m,l,()) H Q X:=wF Tryz.f100 {} h_
def OJ(x y:Int)(H:HY)(Q:Bool×UT->UU)(_:PX):=Q (decide (x<y),()) () H
theorem OI x y H Q X(h_:OJ x y H Q X):qK Kc Gq (x,y,()) H Q X:=wF Tryz.f103 {} h_
def OH(x y:Int)(H:HY)(Q:Bool×UT->UU)(_:PX):=Q (decide (x<=y),()) () H
theorem OG x y H Q X(h_:OH x y H Q X):qK Kb Gp (x,y,()) H Q X:=wF Tryz.f104 {} h_
def OF(x y:Int)(p2:Option Nat)(H:HY)(Q:Bool×UT->UU)(_:PX):=∃(b:Nat),p2=some b/\∃(x1:Bool),H b=some (Ob.st Ho x1)/\x1=x1/\Q (decide (x=y)==decide (x1=true),()) () H
theorem OE x y p2 H Q X(h_:OF x y p2 H Q X):qK Ka Gn (x,y,p2,()) H Q X:=wF Tryz.f106 {} h_
def OD(m:Option Nat)(f g:Int)(H:HY)(Q:Int×Int×UT->UU)(X:PX):=qK Tm Pj (m,[f,g],()) H (λ(b:Int×Int×UT)_ G=>Q (b.1,b.2.1,()) () G) X
theorem OC m f g H Q X(h_:OD m f g H Q X):qK G3 E0 (m,f,g,()) H Q X:=wF Tryz.f107 {} h_
def Bl(w:Option Nat)(t:Ae)(H:HY)(Q:Int×UT->UU)(X:PX):=(t.Op=2->qK BN B8 (w,decide (t.N=1),()) H (λ(b:Int×UT)_ G=>Q (b.1,()) () G) X)/\(¬t.Op=2->(t.Op=3->∃(b:Nat),w=some b/\∃(x:Al),H b=some (Ob.st BJ x)/\x=x/\qK Ds CH (x.l,t.qJ,()) H (λ(b:Int×UT)_ G=>qK BG B3 (w,b.1,1,decide (t.Op=4),()) G (λ(b:Int×UT)_ G=>Q (b.1,()) () G) X) X)/\(¬t.Op=3->(t.Op=4->∃(b:Nat),w=some b/\∃(x:Al),H b=some (Ob.st BJ x)/\x=x/\qK Ds CH (x.l,t.qJ,()) H (λ(b:Int×UT)_ G=>qK BG B3 (w,b.1,1,decide (t.Op=4),()) G (λ(b:Int×UT)_ G=>Q (b.1,()) () G) X) X)/\(¬t.Op=4->(t.Op=5->qK Bp Bb (t,w,()) H (λ(b:List Int×UT)(x:UT)(G:HY)=>qK Bk AY (w,λ(a:Option Nat×List Int×UT)(H:HY)(Q:Int×Int×UT->HP)(X:Nat->Lf Y0.D->HP)=>qK Ke Gt (a.1,a.2.1,()) H (λ(b:Int×Int×UT)(x:UT)(G:HY)=>Q (b.1,b.2.1,()) G) X,b.1,()) G (λ(b:Int×UT)_ G=>Q (b.1,()) () G) X) X)/\(¬t.Op=5->(t.Op=6->qK Bp Bb (t,w,()) H (λ(b:List Int×UT)(x:UT)(G:HY)=>qK Bk AY (w,λ(a:Option Nat×List Int×UT)(H:HY)(Q:Int×Int×UT->HP)(X:Nat->Lf Y0.D->HP)=>qK Cy Ci (a.1,a.2.1,()) H (λ(b:Int×Int×UT)(x:UT)(G:HY)=>Q (b.1,b.2.1,()) G) X,b.1,()) G (λ(b:Int×UT)_ G=>Q (b.1,()) () G) X) X)/\(¬t.Op=6->(t.Op=7->qK Bp Bb (t,w,()) H (λ(b:List Int×UT)(x:UT)(G:HY)=>qK Bk AY (w,λ(a:Option Nat×List Int×UT)(H:HY)(Q:Int×Int×UT->HP)(X:Nat->Lf Y0.D->HP)=>qK IS Hx (a.1,a.2.1,()) H (λ(b:Int×Int×UT)(x:UT)(G:HY)=>Q (b.1,b.2.1,()) G) X,b.1,()) G (λ(b:Int×UT)_ G=>Q (b.1,()) () G) X) X)/\(¬t.Op=7->(t.Op=8->qK CM Cm (λ(a:Option Nat×Int×Int×UT)(H:HY)(Q:Int×Int×UT->HP)(X:Nat->Lf Y0.D->HP)=>qK To Pk (a.1,a.2.1,a.2.2.1,()) H (λ(b:Int×Int×UT)(x:UT)(G:HY)=>Q (b.1,b.2.1,()) G) X,w,λ(a:UT)(H:HY)(Q:List Int×UT->HP)(X:Nat->Lf Y0.D->HP)=>qK Bp Bb (t,w,()) H (λ(b:List Int×UT)(x:UT)(G:HY)=>Q (b.1,()) G) X,()) H (λ(b:Int×UT)_ G=>Q (b.1,()) () G) X)/\(¬t.Op=8->(t.Op=9->qK CM Cm (λ(a:Option Nat×Int×Int×UT)(H:HY)(Q:Int×Int×UT->HP)(X:Nat->Lf Y0.D->HP)=>qK P1 Mm (a.1,a.2.1,a.2.2.1,()) H (λ(b:Int×Int×UT)(x:UT)(G:HY)=>Q (b.1,b.2.1,()) G) X,w,λ(a:UT)(H:HY)(Q:List Int×UT->HP)(X:Nat->Lf Y0.D->HP)=>qK Bp Bb (t,w,()) H (λ(b:List Int×UT)(x:UT)(G:HY)=>Q (b.1,()) G) X,()) H (λ(b:Int×UT)_ G=>Q (b.1,()) () G) X)/\(¬t.Op=9->(t.Op=18->qK Bp Bb (t,w,()) H (λ(b:List Int×UT)(x:UT)(G:HY)=>qK Bk AY (w,λ(a:Option Nat×List Int×UT)(H:HY)(Q:Int×Int×UT->HP)(X:Nat->Lf Y0.D->HP)=>qK Kd Gr (a.1,a.2.1,()) H (λ(b:Int×Int×UT)(x:UT)(G:HY)=>Q (b.1,b.2.1,()) G) X,b.1,()) G (λ(b:Int×UT)_ G=>Q (b.1,()) () G) X) X)/\(¬t.Op=18->(t.Op=12->(True->(0:Int)<=0)/\∃(h:a5 (0:Int)<t.qZ.length),(True->(0:Int)<=1)/\∃(h1:a5 (1:Int)<t.qZ.length),qK E3 D5 (w,t.qZ[a5 (0:Int)],t.qZ[a5 (1:Int)],λ(a:Int×Int×UT)(H:HY)(Q:Bool×UT->HP)(X:Nat->Lf Y0.D->HP)=>qK Kc Gq (a.1,a.2.1,()) H (λ(b:Bool×UT)(x:UT)(G:HY)=>Q (b.1,()) G) X,()) H (λ(b:Int×UT)_ G=>Q (b.1,()) () G) X)/\(¬t.Op=12->(t.Op=13->(True->(0:Int)<=0)/\∃(h:a5 (0:Int)<t.qZ.length),(True->(0:Int)<=1)/\∃(h1:a5 (1:Int)<t.qZ.length),qK E3 D5 (w,t.qZ[a5 (0:Int)],t.qZ[a5 (1:Int)],λ(a:Int×Int×UT)(H:HY)(Q:Bool×UT->HP)(X:Nat->Lf Y0.D->HP)=>qK Kb Gp (a.1,a.2.1,()) H (λ(b:Bool×UT)(x:UT)(G:HY)=>Q (b.1,()) G) X,()) H (λ(b:Int×UT)_ G=>Q (b.1,()) () G) X)/\(¬t.Op=13->∀(b:Nat),H b=none->(True->(0:Int)<=0)/\∃(h:a5 (0:Int)<t.qZ.length),qK LC IH (w,t.qZ[a5 (0:Int)],()) (Ab H b (Ob.st Ho (decide (t.Op=10)))) (λ(b1:Bool×UT)_ G=>(¬b1.1->(True->(0:Int)<=0)/\∃(h:a5 (0:Int)<t.qZ.length),(True->(0:Int)<=1)/\∃(h1:a5 (1:Int)<t.qZ.length),qK E3 D5 (w,t.qZ[a5 (0:Int)],t.qZ[a5 (1:Int)],λ(a:Int×Int×UT)(H:HY)(Q:Bool×UT->HP)(X:Nat->Lf Y0.D->HP)=>qK Ka Gn (a.1,a.2.1,some b,()) H (λ(b:Bool×UT)(x:UT)(G:HY)=>Q (b.1,()) G) X,()) G (λ(b:Int×UT)_ G=>Q (b.1,()) () G) X)/\(¬¬b1.1->∃(x:Bool),G b=some (Ob.st Ho x)/\(x->x=x/\qK CM Cm (λ(a:Option Nat×Int×Int×UT)(H:HY)(Q:Int×Int×UT->HP)(X:Nat->Lf Y0.D->HP)=>qK P1 Mm (a.1,a.2.1,a.2.2.1,()) H (λ(b:Int×Int×UT)(x:UT)(G:HY)=>Q (b.1,b.2.1,()) G) X,w,λ(a:UT)(H:HY)(Q:List Int×UT->HP)(X:Nat->Lf Y0.D->HP)=>qK Bp Bb (t,w,()) H (λ(b:List Int×UT)(x:UT)(G:HY)=>Q (b.1,()) G) X,()) G (λ(b:Int×UT)_ G=>Q (b.1,()) () G) X)/\(¬x->x=x/\qK CM Cm (λ(a:Option Nat×Int×Int×UT)(H:HY)(Q:Int×Int×UT->HP)(X:Nat->Lf Y0.D->HP)=>qK G3 E0 (a.1,a.2.1,a.2.2.1,()) H (λ(b:Int×Int×UT)(x:UT)(G:HY)=>Q (b.1,b.2.1,()) G) X,w,λ(a:UT)(H:HY)(Q:List Int×UT->HP)(X:Nat->Lf Y0.D->HP)=>qK Bp Bb (t,w,()) H (λ(b:List Int×UT)(x:UT)(G:HY)=>Q (b.1,()) G) X,()) G (λ(b:Int×UT)_ G=>Q (b.1,()) () G) X))) X)))))))))))
theorem Bv w t H Q X(h_:Bl w t H Q X):qK Ed Dq (w,t,()) H Q X:=wF Tryz.f42 {pr:=[(7,9)],im:=[2,3]} h_
end
section
def gV(V:B.As->Option Int):Int->B.Fn:=λn a=>decide (V a=some n)
variable {n:Int} {a:B.As}
theorem FL{V:B.As->Option Int}:gV V n a=true↔V a=some n:=decide_eq_true_iff
theorem Agu{V:B.As->Option Int}(h:∀a,V a≠some n):gV V n=λ_=>false:=by funext a;exact decide_eq_false (h a)
theorem Wc{N k:Nat}(a:N<1073741824)(i:k<60):WW (N:Int) k=decide (N/2^k%2=1):=by
 unfold WW;have b:min ((k:Int)).toNat 64=k:=by omega
 have h:((N:Int)).fdiv (2^k)=((N/2^k:Nat):Int):=by grind
 rw[b,h];have c:N/2^k<1073741824:=Nat.lt_of_le_of_lt (bt _ _) a;generalize N/2^k=q at c;have d:C3 .and .i64 (q:Int) 1=((q%2:Nat):Int):=by
  have e:(BitVec.ofInt 64 (q:Int)&&&BitVec.ofInt 64 1).toNat=q%2:=by grind
  show IntKind.i64.wrap ((BitVec.ofInt 64 (q:Int)&&&BitVec.ofInt 64 1).toNat:Int)=_;grind[EL,A7]
 grind
def CE(a:B.As):List Int->Nat
 | []=>0
 |v::l=>(if a v=true then 1 else 0)+2*CE a l
theorem Lt{v:Int}{l:List Int}:CE a (v::l)=(if a v=true then 1 else 0)+2*CE a l:=rfl
theorem VU{a:B.As}:∀{l:List Int},CE a l<2^l.length
 | []=>Nat.one_pos
 |v::l=>by have:=VU (a:=a) (l:=l);rw[ai,ba,Lt];split<;>omega
theorem P4{a:B.As}:∀{l:List Int}{k:Nat}(h:k<l.length),(a l[k]=true↔CE a l/2^k%2=1)
 |v::l,0,_=>by show a v=true↔CE a (v::l)/2^0%2=1;rw[c0,br,Lt];grind
 |v::l,k+1,h=>by
  have b:k<l.length:=by grind
  have c:=P4 (a:=a) (l:=l) (k:=k) b;show a (l[k]'b)=true↔_;rw[c];have e:CE a (v::l)/2^(k+1)=CE a l/2^k:=by rw[ba,c6,<-bb,Lt];congr 1;split<;>omega
  rw[e]
theorem Ahl:∀{n x y:Nat},x<2^n->y<2^n->(∀k,k<n->(x/2^k%2=1↔y/2^k%2=1))->x=y
 |0,x,y,a,b,_=>by omega
 |n+1,x,y,a,b,h=>by
  rw[ba]at a b;have c:=h 0 (by omega);rw[c0,br,br]at c;have:=Ahl (n:=n) (x:=x/2) (y:=y/2) (by omega) (by omega) λk d=>by grind[ba,c6,bb]
  omega
theorem XX{vars:List Int}{N:Int}(o:vars.length<=30)(i:0<=N)(f:N<2^vars.length):DQ (Gf vars N) a=true↔(CE a vars:Int)=N:=by
 obtain⟨m,rfl⟩:=ap i;have p:m<2^vars.length:=by grind
 have q:2^vars.length<=2^30:=al (by omega) o;have hm30:m<1073741824:=by omega
 have g:DQ (Gf vars (m:Int)) a=true↔∀k(h:k<vars.length),(a vars[k]=true↔m/2^k%2=1):=by
  rw[EX];refine⟨λh k b=>?_,λh t j=>?_⟩
  .have e:=Mi (n:=(m:Int)) b;have:=h _ (List.mem_of_getElem? e);have this:a vars[k]=WW (m:Int) k:=this;rw[this,Wc hm30 (by omega),decide_eq_true_iff]
  .obtain⟨k,b,rfl⟩:=am.1 j;have d:k<vars.length:=by grind[Mh]
   have e:=Mi (n:=(m:Int)) d;rw[a6 b]at e;rw[ay e];show a vars[k]=WW (m:Int) k;rw[Wc hm30 (by omega),az,decide_eq_true_iff];grind
 rw[g];refine⟨λh=>?_,λh k b=>?_⟩
 .have:=Ahl (VU (a:=a) (l:=vars)) p λk b=>(P4 b).symm.trans (h k b);omega
 grind[CE,Int.ofNat_inj,P4]
def Cl(l:List Ar)(name:ByteArray):Nat:=l.findIdx λv=>decide (v.qJ=name)
variable {L:Ac} {i:Nat}
theorem Se{name:ByteArray}{H:HY}{X:PX}{Q:Int×Unit->UU}(k:Jf L)(a:Cl L.Aa name=i)(hi:i<L.Aa.length)(h:Q ((i:Int),()) () H):qK Ds CH (L,name,()) H Q X:=by
 subst a;refine wF Tryz.f96 {lp:=[(2,⟨[(10,.one (.dat I6))],[1,8,9],false⟩)],im:=[2]} (?_:L.Aa.length<=2^63-1->∃(V:Nat->Int×UT->Prop),(∃(n:Nat),H=H/\V n (0,()))/\∀n x,V n x->(x.1<(↑L.Aa.length:Int)->IK x.1->(IK x.1->0<=x.1)/\∃(h:x.1.toNat<L.Aa.length),(L.Aa[x.1.toNat].qJ=name->Q (x.1,()) () H)/\(¬L.Aa[x.1.toNat].qJ=name->IK x.1->IK (x.1+1)/\∃m,m<n/\H=H/\V m (x.1+1,())))/\(¬x.1<(↑L.Aa.length:Int)->Q (-1,()) () H));have g:=k.ln;refine λ_=>⟨λn z=>∃j:Nat,z.1=(j:Int)/\n=L.Aa.length-j/\j<=Cl L.Aa name,⟨_,rfl,0,rfl,rfl,a7 _⟩,?_⟩
 rintro n ⟨x,_⟩ ⟨j,d,o,m⟩;have l:x=(j:Int):=d;subst l;have f:((j:Int)).toNat=j:=by omega
 refine⟨λ_ _=>⟨λ_=>by omega,by omega,λa=>?_,λa _=>⟨A7.2 (by omega),L.Aa.length-(j+1),by omega,rfl,j+1,by rfl,rfl,?_⟩⟩,λb=>qG (show (j:Int)<_ by omega) b⟩
 .grind[Cl,List.not_of_lt_findIdx,decide_eq_true]
 .have a:¬(L.Aa[((j:Int)).toNat]'(by omega)).qJ=name:=a;simp only[f]at a;have:j≠Cl L.Aa name:=λe=>by have c:=List.findIdx_getElem (xs:=L.Aa) (p:=λv:Ar=>decide (v.qJ=name)) (w:=hi);have c:=of_decide_eq_true c;subst e;exact a c
  omega
def Jk(L:Ac)(next:Bool)(i:Nat)(a:B.As):Option Int:=match L.Aa[i]? with
 |some v=>if E8 v+(CE a (Cu L i next):Int)<=NF v then some (E8 v+(CE a (Cu L i next):Int)) else none
 |none=>none
theorem Jt{next:Bool}(hi:i<L.Bits.length):(Cu L i next).length=L.Bits[i].toNat:=by unfold Cu Mq;rw[a6 hi];split<;>simp
theorem Jx(c:Ku L){next:Bool}(hi:i<L.Aa.length):Jk L next i a=some n↔(E8 L.Aa[i]<=n/\n<=NF L.Aa[i])/\isF L next i n a=true:=by
 have b:i<L.Bits.length:=by rw[c.lb];exact hi
 obtain⟨q,p,l,m⟩:=c.fit i hi b;have k:DL L i n=n-E8 L.Aa[i]:=by unfold DL E8;rw[a6 hi];show (if _ then _ else _)=_;split<;>simp
 have e:=Jt (next:=next) b;have d:=(Rk c.toJf hi (next:=next)).1;unfold Jk isF;grind[a6,ay,E8,XX]
theorem Pr{H:HY}{wb b r c:Nat}{M0 M:Mn}{lv:List (Int×Bool)}{y z:Ob Y0}(w:WK H wb b M0 M L lv)(g:H r=none)(f:Ab H r y c=none):Wk H (Ab (Ab H r y) c z) wb b M0 M M L lv lv []/\Ab (Ab H r y) c z r=some y/\Ab (Ab H r y) c z c=some z/\r≠wb/\c≠wb/\r≠c/\Fb b M0 r/\Fb b M0 c/\H c=none:=by
 have d:r≠c:=λe=>by grind[Ai]
 have a:H c=none:=by simp_all[Ag,Ne.symm]
 have h:r≠wb:=λe=>by rw[e,w.ob]at g;cases g
 have i:c≠wb:=λe=>by rw[e,w.ob]at a;cases a
 refine⟨((Wk.of w).fresh g).fresh f,?_,Ai _ _ _,h,i,d,(w.mg.h.notM g).back w.bs,(w.mg.h.notM a).back w.bs,a⟩;rw[Ag _ _ d,Ai]
theorem R1{n0:Int}{t:Ae}(E:t.Op=1):Uh L n0 t (gV λ_=>some t.N) 1 1 1:=by
 intro C b O M G H X Q w S R P l;apply E4;unfold D6;intro r s c J;obtain⟨q,v,o,y,F,A,B,N,I⟩:=Pr (z:=.st Ak (some r)) w s J;generalize Ab (Ab H r (.mp I6 I6 [])) c (.st Ak (some r))=K at q v o;refine⟨λ_=>?_,λh=>qG E h⟩;have n:∀{k:Mn}{d g},Wk K g C b O M k L G d [(M.nx,λ_=>true)]->k.nx=M.nx+1->g r=some (.mp I6 I6 [])/\g c=some (.st Ak (some r))/\Q (some r,()) () (Ab g r (.mp I6 I6 (BR [] t.N M.nx))):=λ{k d g}i f=>by
  refine⟨by rw[i.f r (by rw[v];simp) y B];exact v,by rw[i.f c (by grind) F N];exact o,?_⟩;refine l k d _ r [(t.N,M.nx)] ((q.trans i).perm ?_ |>.Aac y B s) s (Ai _ _ _) (JI (m:=[]) (by simp [N9]) _ _) (λj D=>Agu λa e=>?_) (bg _) (by omega)
  .have:gV (λ_=>some t.N) t.N=λ_=>true:=by funext a;exact decide_eq_true rfl
   show [(M.nx,gV (λ_=>some t.N) t.N)].Perm _;simp_all
  grind[ay,Ad]
 refine⟨⟨some r,o,rfl,(Wk.of q.w).const (by omega) λk d g i f=>?_⟩,(Wk.of q.w).const (by omega) λk d g i f=>?_⟩
 .obtain⟨x,p,u⟩:=n i f;exact⟨r,rfl,[],x,some r,by rw[Ag _ _ (Ne.symm A)];exact p,rfl,u⟩
 .obtain⟨x,p,u⟩:=n i f;exact⟨some r,p,rfl,r,rfl,[],x,some r,by simp_all[Ag,Ne.symm],rfl,u⟩
end
theorem Arv{m:List (Int×Int)}{G:Int->B.Fn}{n h:Int}(a:Ad m n=none):(Jm (BR m n h) G).Perm ((h,G n)::Jm m G):=by
 have p:=(Pt (k:=n) (v:=h) (m:=m)).map λp=>(p.2,G p.1)
 rw[Te a]at p;exact p
theorem TB{L:Ac}{n0:Int}{t:Ae}(G:Ku L)(N:2*CR L<=n0)(ht:t.Op=3∨t.Op=4)(hi:Cl L.Aa t.qJ<L.Aa.length):Uh L n0 t (gV (Jk L (decide (t.Op=4)) (Cl L.Aa t.qJ))) 16 20 20:=by
 intro I b Z M lv H X Q w hn hl hS B;apply E4;unfold D6;intro r Y c hc;obtain⟨V,e1,e2,d1,d2,d3,n1,n2,hcn⟩:=Pr (z:=.st Ak (some r)) w Y hc;generalize Ab (Ab H r (.mp I6 I6 [])) c (.st Ak (some r))=H2 at V e1 e2;obtain⟨o,K⟩:∃o,decide (t.Op=(4:Int))=o:=⟨_,rfl⟩
 obtain⟨i,g⟩:∃i,Cl L.Aa t.qJ=i:=⟨_,rfl⟩
 rw[K,g]at B;rw[g]at hi;have h8:2*CR L<=8:=by have:=w.mg.n8;omega
 obtain⟨c1,c2,c3,c4,c5⟩:=G.cnt h8 hi;have hwl:=w.ln;have hln:=G.ln;have t0:((i:Int)).toNat=i:=by omega
 refine⟨λh=>by omega,λ_=>⟨λh3=>?_,λh3=>⟨λh4=>?_,λh4=>by omega⟩⟩⟩;all_goals
  refine⟨I,rfl,_,V.w.ob,rfl,Se G.toJf g hi ⟨I,rfl,_,V.w.ob,λ_=>⟨λ_=>by show (0:Int)<=(i:Int);omega,by show ((i:Int)).toNat<L.Aa.length;omega,rfl,Ny ⟨λn z D=>∃j:Nat,z.1=E8 L.Aa[i]+(j:Int)/\j<=Ng L.Aa[i]/\n=Ng L.Aa[i]-j/\∃l A m,Wk H D I b Z M l L lv A (Jm m (isF L o i))/\D r=some (.mp I6 I6 m)/\D c=some (.st Ak (some r))/\N9 m/\(∀x,Ad m x=none↔¬(E8 L.Aa[i]<=x/\x<E8 L.Aa[i]+(j:Int)))/\m.length=j/\l.nx<=M.nx+(j:Int),⟨_,0,?_,a7 _,rfl,M,lv,[],V,e1,e2,by simp [N9],λx=>⟨λ_=>by omega,λ_=>rfl⟩,rfl,by simp⟩,?_⟩⟩⟩⟩
  .show E8 L.Aa[i]=E8 L.Aa[i]+((0:Nat):Int);omega
  rintro n ⟨x,u⟩ D ⟨j,hx0,hj,hn1,l,A,m,O,F,q,E,d,C,nx4⟩
  have hx:x=E8 L.Aa[i]+(j:Int):=hx0
  subst hx
  have l4:=O.ln
  have lm:(Jm m (isF L o i)).length=j:=by unfold Jm;rw[ad];exact C
  rw[lm]at l4
  refine⟨λf=>?_,λf=>?_⟩
  .have f:E8 L.Aa[i]+(j:Int)<=NF L.Aa[i]:=f
   have R:Ad m (E8 L.Aa[i]+(j:Int))=none:=(d _).2 (by omega)
   have fin:∀{S:Mn}{s v},Wk D v I b Z l S L A s [(l.nx,isF L o i (E8 L.Aa[i]+(j:Int)))]->S.nx=l.nx+1->v r=some (.mp I6 I6 m)/\v c=some (.st Ak (some r))/\∃k<n,∃J:Nat,E8 L.Aa[i]+(j:Int)+1=E8 L.Aa[i]+(J:Int)/\J<=Ng L.Aa[i]/\k=Ng L.Aa[i]-J/\∃M6 lv6 P,Wk H (Ab v r (.mp I6 I6 (BR m (E8 L.Aa[i]+(j:Int)) l.nx))) I b Z M M6 L lv lv6 (Jm P (isF L o i))/\Ab v r (.mp I6 I6 (BR m (E8 L.Aa[i]+(j:Int)) l.nx)) r=some (.mp I6 I6 P)/\Ab v r (.mp I6 I6 (BR m (E8 L.Aa[i]+(j:Int)) l.nx)) c=some (.st Ak (some r))/\N9 P/\(∀x,Ad P x=none↔¬(E8 L.Aa[i]<=x/\x<E8 L.Aa[i]+(J:Int)))/\P.length=J/\M6.nx<=M.nx+(J:Int):=λ{S s v}T U=>by
    have W:v c=some (.st Ak (some r)):=by rw[T.f c (by rw[q];simp) d2 n2];exact q
    refine⟨by rw[T.f r (by rw[F];simp) d1 n1];exact F,W,Ng L.Aa[i]-(j+1),by omega,j+1,by omega,by omega,rfl,S,s,_,((O.trans T).perm (Arv R)).Aac d1 n1 Y,Ai _ _ _,by rw[Ag _ _ (Ne.symm d3)];exact W,JI E _ _,λx=>?_,by rw[Lg R,C],by omega⟩;rw[Cw];by_cases ex:x=E8 L.Aa[i]+(j:Int)
    .rw[UV ex];simp;omega
    .rw[GT ex,d];omega
   have ik:Bn .i64 (E8 L.Aa[i]+(j:Int)+1):=A7.2 (by omega)
   refine⟨⟨some r,q,rfl,?_⟩,?_⟩
   all_goals
    show qK BG B3 (some I,(i:Int),E8 L.Aa[i]+(j:Int),decide (t.Op=(4:Int)),()) D _ X
    rw[K]
    refine(Wk.of O.w).Adm (by omega) (by omega) G.toJf hi (by rw[O.w.bs.n,<-w.bs.n,hS];exact N) (G.Adm h8 hi (by omega) f) λS s v T U=>?_
    obtain⟨a1,W,a3⟩:=fin T U
   .exact⟨r,rfl,m,a1,λ_=>⟨ik,a3⟩⟩
   .exact⟨some r,W,rfl,r,rfl,m,a1,λ_=>⟨ik,a3⟩⟩
  .have f:¬E8 L.Aa[i]+(j:Int)<=NF L.Aa[i]:=f
   have hjc:j=Ng L.Aa[i]:=by omega
   subst hjc
   refine⟨some r,q,rfl,B l A D r m ?_ Y F E (λy hy=>Agu λa e=>?_) (by omega) (by omega)⟩
   .have e:Jm m (gV (Jk L o i))=Jm m (isF L o i):=by
     refine List.map_congr_left λp hp=>?_;have hk:=ab.1 λh=>qG ((d p.1).2 h) (by rw[Gz E hp];simp);have:gV (Jk L o i) p.1=isF L o i p.1:=by funext a;rw[az,FL,Jx G hi];exact⟨λh=>h.2,λh=>⟨by omega,h⟩⟩
     rw[this]
    rw[e];exact O
   .have:=((Jx G hi).1 e).1
    have:=(d y).1 hy
    omega
section
def VD(n:Int)(V:B.As->Option Int):Prop:=∀a b:B.As,(∀v,0<=v->v<n->a v=b v)->V a=V b
def VB(V:B.As->Option Int):Prop:=∀a n,V a=some n->-2000000<=n/\n<=2000000
def as8(k:Nat):B.As:=λv=>decide (k/2^v.toNat%2=1)
theorem Ayj(a:B.As):∃k,k<256/\∀v:Int,0<=v->v<8->a v=as8 k v:=by
 refine⟨CE a [0,1,2,3,4,5,6,7],VU (l:=[0,1,2,3,4,5,6,7]),λv c d=>?_⟩;obtain⟨m,rfl⟩:=ap c;have b:m<8:=by omega
 have h:=P4 (a:=a) (l:=[0,1,2,3,4,5,6,7]) (k:=m) b;have e:([0,1,2,3,4,5,6,7]:List Int)[m]'b=(m:Int):=by
  have:m=0∨m=1∨m=2∨m=3∨m=4∨m=5∨m=6∨m=7:=by omega
  rcases this with rfl|rfl|rfl|rfl|rfl|rfl|rfl|rfl<;>rfl
 rw[e]at h;show a (m:Int)=decide (CE a [0,1,2,3,4,5,6,7]/2^(m:Int).toNat%2=1);rw[az,decide_eq_true_iff];exact h
theorem ZP{V:B.As->Option Int}(c:VD 8 V){l:List Int}(b:l.Nodup)(h:∀n∈l,∃a,V a=some n):l.length<=256:=by
 have j:=GO (m:=(ar 256).filterMap λk=>V (as8 k)) b λn d=>by obtain⟨a,f⟩:=h n d;obtain⟨k,i,e⟩:=Ayj a;exact List.mem_filterMap.2 ⟨k,bv.2 i,by rw[<-c a _ e];exact f⟩
 grind
def ZE(f:Int->Int->Int)(Va Vc:B.As->Option Int):B.As->Option Int:=λa=>(Va a).bind λx=>(Vc a).map (f x)
variable {f:Int->Int->Int} {Va Vc:B.As->Option Int} {a:B.As} {n:Int}
theorem Po:ZE f Va Vc a=some n↔∃x y,Va a=some x/\Vc a=some y/\f x y=n:=by simp[ZE,Option.bind_eq_some_iff]
theorem Aqx(c:VD n Va)(d:VD n Vc):VD n (ZE f Va Vc):=λa b e=>by unfold ZE;rw[c a b e,d a b e]
def dsF(f:Int->Int->Int)(Va Vc:B.As->Option Int)(ds:List (Int×Int)):Int->B.Fn:=λn a=>ds.any λp=>decide (f p.1 p.2=n)&&(gV Va p.1 a&&gV Vc p.2 a)
variable {ds:List (Int×Int)}
theorem Ag7:dsF f Va Vc ds n a=true↔∃x y,(x,y)∈ds/\f x y=n/\Va a=some x/\Vc a=some y:=by simp[dsF,List.any_eq_true,bq,FL]
theorem Ab4{x y:Int}:NM (dsF f Va Vc ds) (f x y) (C6 (gV Va x) (gV Vc y))=dsF f Va Vc (ds++[(x,y)]):=by
 funext n a;unfold NM;by_cases h:n=f x y
 .subst h;rw[UV rfl];simp[Q4,C6,dsF]
 .have b:¬f x y=n:=λe=>h e.symm;simp_all[dsF]
theorem Ab5{x y:Int}(h:∀a,C6 (gV Va x) (gV Vc y) a=false):dsF f Va Vc (ds++[(x,y)])=dsF f Va Vc ds:=by funext n a;simp_all[C6,dsF]
theorem Ag6(h:dsF f Va Vc ds n a=true):ZE f Va Vc a=some n:=by grind[Ag7,Po]
theorem Ag8(h:∀x y a,gV Va x a=true->gV Vc y a=true->(x,y)∈ds):dsF f Va Vc ds=gV (ZE f Va Vc):=by funext n a;rw[az,FL];refine⟨Ag6,λe=>?_⟩;obtain⟨x,y,b,c,d⟩:=Po.1 e;exact Ag7.2 ⟨x,y,h x y a (FL.2 b) (FL.2 c),d,b,c⟩
structure OpU(r c:Nat)(f:Int->Int->Int)(Va Vc:B.As->Option Int)(ds:List (Int×Int))(H:HY)(hs:List (Int×B.Fn))(m:List (Int×Int)):Prop where
 hs:hs=Jm m (dsF f Va Vc ds)
 c:H c=some (.st Ak (some r))
 r:H r=some (.mp I6 I6 m)
 nd:N9 m
 k:∀n,Ad m n=none↔∀a,dsF f Va Vc ds n a=false
theorem OpU.le{r c:Nat}{H:HY}{hs:List (Int×B.Fn)}{m:List (Int×Int)}(u:OpU r c f Va Vc ds H hs m)(d:VD 8 Va)(j:VD 8 Vc):m.length<=256:=by
 have:=ZP (Aqx (f:=f) d j) (l:=m.map λ(p:Int×Int)=>p.1) u.nd λn g=>by have b:¬∀a,dsF f Va Vc ds n a=false:=λh=>Er.1 ((u.k n).2 h) g;obtain⟨a,i⟩:=Classical.not_forall.1 b;exact⟨a,Ag6 (ds:=ds) (by grind)⟩
 grind
end
section
theorem Avx{Hb:HY}{wb b r c:Nat}{M0 Mb:Mn}{L:Ac}{lvb:List (Int×Bool)}{f:Int->Int->Int}{Va Vc:B.As->Option Int}{J3:Int×Int×Int×Unit->HY->(Unit->HP)->PX->Prop}(P:VD 8 Va)(Y:VD 8 Vc)(E:r≠wb)(G:c≠wb)(S:r≠c)(C:Fb b M0 r)(F:Fb b M0 c)(T:Hb r=none)(q:∀x y h H(N:HP)X,(∃a,Va a=some x)->(∃a,Vc a=some y)->H c=some (.st Ak (some r))->qK Cb BQ (some wb,some r,f x y,h,()) H (λ_ _ H'=>N H') X->J3 (x,y,h,()) H (λ_ H'=>N H') X):DoU Hb wb b M0 Mb L lvb (gV Va) (gV Vc) (λds H hs=>∃m,OpU r c f Va Vc ds H hs m) r 256 1 J3:=by
 refine⟨λds H hs⟨m,u⟩=>?_,λds H H' hs⟨m,u⟩z=>⟨m,u.hs,?_,?_,u.nd,u.k⟩,λds H hs x y⟨m,u⟩v=>⟨m,?_,u.c,u.r,u.nd,?_⟩,λds H hs M lv x y h Q N X⟨m,u⟩V k hn hl i=>?_⟩
 .rw[u.hs];unfold Jm;rw[ad];exact u.le P Y
 .rw[z c (by rw[u.c];simp) G F];exact u.c
 .rw[z r (by rw[u.r];simp) E C];exact u.r
 .rw[Ab5 v];exact u.hs
 .rw[Ab5 v];exact u.k
 .obtain⟨a,D⟩:=V;have g:=D;unfold C6 at g;rw[bq,FL,FL]at g;refine q x y h H N X ⟨a,g.1⟩ ⟨a,g.2⟩ u.c ?_;have A:=k;rw[u.hs]at A;refine T7 A (by omega) (by omega) u.r E C T u.nd (λj U=>funext λa=>(u.k j).1 U a) λR s H' O w K p t l o=>?_;rw[Ab4]at w;refine i R s H' _ w ⟨O,rfl,by rw[o c (by rw[u.c];simp) (Ne.symm S) G F];exact u.c,p,t,λn=>?_⟩ (by omega) λd Z W I J=>o d Z W I J;rw[l,u.k,<-Ab4];unfold NM;by_cases e:n=f x y
  .rw[UV e];refine⟨λh=>qG e h.2,λh=>?_⟩;simp_all[Q4]
  simp_all
def opF(op:Int)(x y:Int):Int:=if op=14 then x+y else if op=15 then x-y else if op=16 then x*y else (x.tmod y+y).tmod y
variable {x y:Int}
theorem Agh(c:-2000000<=x/\x<=2000000)(b:-2000000<=y/\y<=2000000):-4000000000000<=x*y/\x*y<=4000000000000:=by
 have a:(x*y).natAbs<=2000000*2000000:=by rw[Int.natAbs_mul];exact Nat.mul_le_mul (by omega) (by omega)
 omega
theorem UA(b:1<=y):-y<x.tmod y/\x.tmod y<y:=by
 have a:x.tmod y<y:=bj _ (by omega);rcases Int.le_total 0 x with h|h
 .have:=Int.tmod_nonneg y h;omega
 .have e:(-x).tmod y=-(x.tmod y):=Int.neg_tmod ..;have c:(-x).tmod y<y:=bj _ (by omega);omega
theorem Aq3{t:Ae}{wb r c:Nat}{h:Int}{H:HY}{N:HP}{X:PX}(l:t.Op=14∨t.Op=15∨t.Op=16∨t.Op=17)(k:-2000000<=x/\x<=2000000)(j:-2000000<=y/\y<=2000000)(m:t.Op=17->1<=y)(d:H c=some (.st Ak (some r)))(a:qK Cb BQ (some wb,some r,opF t.Op x y,h,()) H (λ_ _ f=>N f) X):qK DK CT (x,y,h,t,some wb,some c,()) H (λ(_ _:Unit)(f:HY)=>N f) X:=by
 apply Ni;unfold Jb;have g:=Agh k j;rcases l with e|e|e|e
 .rw[e]at a;exact⟨λ_ _ _=>⟨A7.2 (by omega),c,rfl,_,d,rfl,a⟩,λh=>qG e h⟩
 .rw[e]at a;exact⟨λh=>by omega,λ_=>⟨λ_ _ _=>⟨A7.2 (by omega),c,rfl,_,d,rfl,a⟩,λh=>qG e h⟩⟩
 .rw[e]at a;exact⟨λh=>by omega,λ_=>⟨λh=>by omega,λ_=>⟨λ_ _ _=>⟨A7.2 (by omega),c,rfl,_,d,rfl,a⟩,λh=>qG e h⟩⟩⟩
 .rw[e]at a;have i:=m e;have n:=UA (x:=x) i;have o:=UA (x:=x.tmod y+y) i;exact⟨λh=>by omega,λ_=>⟨λh=>by omega,λ_=>⟨λh=>by omega,λ_=>⟨λ_ _ _=>⟨by omega,A7.2 (by omega),λ_ _=>⟨A7.2 (by omega),λ_ _=>⟨by omega,A7.2 (by omega),c,rfl,_,d,rfl,a⟩⟩⟩,λh=>qG e h⟩⟩⟩⟩
theorem X7{L:Ac}{n0:Int}{t ta tc:Ae}{Va Vc:B.As->Option Int}{bda ca pka bdc cc pkc W Z PK:Nat}(hp:pka<=PK/\bda+pkc<=PK/\256+bda+bdc<=PK)(ht:t.Op=14∨t.Op=15∨t.Op=16∨t.Op=17)(g:t.qZ=[ta,tc])(na:Uh L n0 ta (gV Va) bda ca pka)(nc:Uh L n0 tc (gV Vc) bdc cc pkc)(K:VD 8 Va)(T:VD 8 Vc)(b1:VB Va)(b2:VB Vc)(hm:t.Op=17->∀a y,Vc a=some y->1<=y)(hb1:bda<=20000)(hb2:bdc<=20000)(hW:W=bdc*2)(hZ:Z=bda*W):Uh L n0 t (gV (ZE (opF t.Op) Va Vc)) 256 (ca+cc+Z+2000) PK:=by
 intro wb b M0 M lv H X Q w hn hl hS l;apply E4;unfold D6;intro r q c hc;obtain⟨G,A,O,J,d2,d3,P,Y,hcn⟩:=Pr (z:=.st Ak (some r)) w q hc;generalize Ab (Ab H r (.mp I6 I6 [])) c (.st Ak (some r))=H2 at G A O;have wln:=w.ln;have p:t.qZ[a5 (0:Int)]'(by grind)=ta:=by simp [g]
 have C:t.qZ[a5 (1:Int)]'(by grind)=tc:=by simp [g]
 refine⟨λh=>by omega,λ_=>⟨λh3=>by omega,λh3=>⟨λh4=>by omega,λh4=>⟨λV=>by omega,λV=>⟨λ_=>by omega,by grind,λ_=>by omega,by grind,?_⟩⟩⟩⟩⟩;rw[p,C];have D:=Avx (Hb:=H) (wb:=wb) (b:=b) (r:=r) (c:=c) (M0:=M0) (Mb:=M) (L:=L) (lvb:=lv) (f:=opF t.Op) (Va:=Va) (Vc:=Vc) (J3:=λ(a:Int×Int×Int×Unit)(H:HY)(Q:Unit->HP)(X:Nat->Lf Y0.D->HP)=>qK DK CT (a.1,a.2.1,a.2.2.1,t,some wb,some c,()) H (λ(b x:Unit)(o:HY)=>Q () o) X) K T J d2 d3 P Y q (λx y h H N X⟨a,hx⟩⟨E,F⟩v U=>by have v1:=b1 a x hx;have v2:=b2 E y F;exact Aq3 ht v1 v2 (λe=>hm e E y F) v U)
 refine PJ (ctx:=[]) (hsU:=[]) (k:=by simpa using G) (u:=⟨[],rfl,O,A,by simp [N9],λn=>by simp [Ad,dsF]⟩) (d:=D) (na:=na) (nc:=nc) hS (by grind) J P (by omega) (by omega) hW hZ (by omega) (by omega) (by omega) (by grind) λM' s o S ds I⟨m,u⟩i nx'=>?_;rw[List.append_nil]at I;refine⟨some r,u.c,rfl,l M' s o r m ?_ q u.r u.nd (λj hj=>?_) (u.le K T) (by omega)⟩
 .rw[<-Ag8 (f:=opF t.Op) i,<-u.hs];exact I
 .rw[<-Ag8 (f:=opF t.Op) i];exact funext ((u.k j).1 hj)
end
section
variable {wb b:Nat} {M0 M M':Mn} {L:Ac} {lv:List (Int×Bool)} {H H':HY}
theorem WK.kp(w:WK H wb b M0 M L lv)(g:MG H' b M')(kp:Kp M M')(f:Jd b M H H'):WK H' wb b M0 M' L lv:=
 ⟨by rw[f.at (by rw[w.ob];simp) w.wn];exact w.ob,g,w.bs.trans kp.bs,w.n0,by rw[kp.nx];exact w.nx,w.nd,w.tr,λh a=>⟨(kp.Aq h).trans (w.lo h a).1,(w.lo h a).2⟩,λh a=>by rw[kp.Aq];exact w.hi h a,by rw[kp.hs];exact w.ln⟩
theorem WK.KK(w:WK H wb b M0 M L lv)(f:∀c,H c≠none->H' c=H c):WK H' wb b M0 M L lv:=
 ⟨by rw[f wb (by rw[w.ob];simp)];exact w.ob,w.mg.KK f,w.bs,w.n0,w.nx,w.nd,w.tr,w.lo,w.hi,w.ln⟩
theorem Has.kp{Mb:Mn}{lvb:List (Int×Bool)}{hs:List (Int×B.Fn)}(h:Has Mb M lvb lv hs)(kp:Kp M M'):Has Mb M' lvb lv hs:=
 ⟨h.nb,h.nd,λp a=>by rw[kp.nx];exact h.ge p a,h.get,λp a=>(kp.Aq _).trans (h.Aq p a),λk b=>(kp.Aq k).trans (h.KK k b),h.len,by rw[kp.nx];exact h.nx⟩
theorem Wk.kp{Hb:HY}{Mb:Mn}{lvb:List (Int×Bool)}{hs:List (Int×B.Fn)}(k:Wk Hb H wb b M0 Mb M L lvb lv hs)(g:MG H' b M')(kp:Kp M M')(f:Jd b M H H'):Wk Hb H' wb b M0 Mb M' L lvb lv hs:=k.step (k.w.kp g kp f) (k.h.kp kp) f.w
variable {m:List (Int×Int)}
theorem Ap6(a:N9 m):(m.map (·.1)).map (λn=>(Ad m n).getD 0)=m.map (·.2):=by simp_all[b5,Gz]
theorem Uc{BD:List Int}(b:N9 lv)(f:BD.Nodup)(c:∀k∈BD,(Ad lv k).isSome=true):(lv.filter λp=>decide (p.1∈BD)).length=BD.length:=by
 have e:(lv.filter λp=>decide (p.1∈BD)).map (·.1)=(lv.map (·.1)).filter λk=>decide (k∈BD):=by rw[List.filter_map];rfl
 have p:((lv.map (·.1)).filter λk=>decide (k∈BD)).Perm BD:=by refine(List.perm_ext_iff_of_nodup (List.Pairwise.filter _ b) f).2 λa=>?_;rw[List.mem_filter];refine⟨λh=>of_decide_eq_true h.2,λh=>⟨?_,decide_eq_true h⟩⟩;refine a9 λd=>?_;grind[Er]
 have:=p.length_eq;grind
open Classical in
noncomputable def El(V:B.As->Option Int)(W:B.Fn)(l:List Int):List Int:=l.filter λn=>decide (∃a,V a=some n/\W a=true)
def LG(m:List (Int×Int))(l:List Int):List BU:=l.map λn=>{N:=n,H:=(Ad m n).getD 0}
variable {V:B.As->Option Int} {W:B.Fn} {l:List Int}
open Classical in
theorem Vu{n:Int}:El V W (l++[n])=if ∃a,V a=some n/\W a=true then El V W l++[n] else El V W l:=by unfold El;rw[List.filter_append];split;all_goals grind
theorem Ajc{n:Int}:n∈El V W l↔n∈l/\∃a,V a=some n/\W a=true:=by grind[El]
theorem Pv:(El V W l).Sublist l:=List.filter_sublist
structure Ae2(M M':Mn)(V:B.As->Option Int)(W:B.Fn)(cs:List BU):Prop where
 bs:Dx M M'
 nx:M.nx<=M'.nx
 ln:M'.hs.length=M.hs.length+cs.length
 srt:(cs.map (·.N)).Pairwise (·<·)
 mem:∀n,n∈cs.map (·.N)↔∃a,V a=some n/\W a=true
 Aq:∀c∈cs,M'.Aq c.H=some (gV V c.N)
 KK:∀k F,M.Aq k=some F->M'.Aq k=some F
theorem Ald(d:N9 m):(AI m).Pairwise (·<·):=by have f:(AI m).Pairwise (·<=·):=(List.pairwise_mergeSort (by grind) (by grind) (m.map (·.1))).imp (by simp);have e:(AI m).Pairwise (·≠·):=((DW m).nodup_iff).2 d;exact(f.and e).imp λh=>by omega
theorem Ajs{Hb:HY}{Mx:Mn}{wh:Int}(k:Wk Hb H wb b M M Mx L [] lv (Jm m (gV V)++[(wh,W)]))(p:N9 m)(y:∀j,Ad m j=none->gV V j=λ_=>false)(e:Apk M Mx M' lv ((El V W (AI m)).map λn=>(Ad m n).getD 0)):Ae2 M M' V W (LG m (El V W (AI m))):=by
 have i:∀n∈El V W (AI m),∃h,Ad m n=some h:=λn f=>by obtain⟨h,e,_⟩:=Pe p (Pv.subset f);exact⟨h,e⟩
 have q:(m.map (·.2)).Nodup:=by
  have:=k.h.nd;rw[ao,bn]at this;have o:=this.1;have:(Jm m (gV V)).map (·.1)=m.map (·.2):=by unfold Jm;rw[b5];rfl
  rw[this]at o;exact o
 have s:((El V W (AI m)).map λn=>(Ad m n).getD 0).Nodup:=by
  have o:((AI m).map λn=>(Ad m n).getD 0).Nodup:=by grind[DW,Ap6]
  exact(Pv.map _).nodup o
 have d:∀n∈El V W (AI m),∃h,Ad m n=some h/\(h,gV V n)∈Jm m (gV V)++[(wh,W)]:=λn f=>by grind[ag,Ur]
 have t:∀{h F},(h,F)∈Jm m (gV V)++[(wh,W)]->Ad lv h=some true:=λ{h F}v=>by rw[k.h.get,UV (bi v)]
 refine⟨k.w.bs.trans e.bs,by rw[e.nx];exact k.h.nx,?_,?_,λn=>?_,λc w=>?_,λj F l=>?_⟩
 .rw[e.ln,Uc k.w.nd s λj l=>?_,ad]
  .unfold LG;rw[ad]
  grind
 .unfold LG;rw[b5];grind[El,AI,Ad,c7,Ald,Pv]
 .unfold LG;rw[b5];have:(El V W (AI m)).map ((λx:BU=>x.N)∘λn=>({N:=n,H:=(Ad m n).getD 0}:BU))=El V W (AI m):=c7 _;rw[this,Ajc];refine⟨λh=>h.2,λh=>⟨(DW m).mem_iff.2 (a9 λf=>?_),h⟩⟩;obtain⟨a,z,_⟩:=h;have:=congrFun (y n (Er.2 f)) a;grind[FL]
 .unfold LG at w;obtain⟨n,f,rfl⟩:=bm.1 w;obtain⟨h,u,r⟩:=d n f;show M'.Aq ((Ad m n).getD 0)=some (gV V n);rw[e.Aq,GT λv=>v.2 (bi f),u,an];exact k.h.Aq _ r
 .have g:j<M.nx:=by
   have C:∃x,Ad M.hs j=some x:=by grind[Mn.Es]
   refine a9 λf=>?_;have:=(k.h.nb j (by omega)).2;grind
  rw[e.Aq,(k.w.lo j g).2,GT (by simp),(k.w.lo j g).1,l]
theorem OO{t:Ae}{bd c pk:Nat}{y:Af}{e:Int}{X:PX}{Q:List BU×Int×Unit->UU}(hM:MG H b M)(hn:M.nx+(c:Int)<576460752303410000)(hl:M.hs.length+bd+pk<=59000)(hL:Ku L)(v:2*CR L<=M.S.n)(hT:∀(H:HY)(X:PX)(Q:Af×Int×Unit->UU),(∀H',(∀c,H c≠none->H' c=H c)->Q (y,e,()) () H')->qK Fx Ey (L.Aa,t,true,()) H Q X)(na:e=0->y.Bool=false->Uh L M.S.n t (gV V) bd c pk)(he:e≠0->∀H',MG H' b M->FrO b M H H'->Q ([],e,()) () H')(hb:e=0->y.Bool=true->∀H',MG H' b M->FrO b M H H'->Q ([],13,()) () H')(h0:e=0->y.Bool=false->∀M' H' cs,MG H' b M'->Ae2 M M' V (C6 (EA L false L.Aa.length) (EA L true L.Aa.length)) cs->M'.nx<=M.nx+(c:Int)+7000->FrO b M H H'->Q (cs,0,()) () H'):qK Me JE (some b,L,t,()) H Q X:=by
 refine wF Tryz.f30 {lp:=[(14,⟨[(13,.one (.own (.u 10))),(14,.one (.own I6)),(55,.one (.own I6)),(57,.nat)],[0,8,11,12,55,56],true⟩)],im:=[4,5],il:=ilT} (?_:Qo (some b) L t H Q X);unfold Qo;refine Lw hM hL.toJf (λhlt=>by omega) λ_ o H0 hwb w0 f0=>⟨λu=>qG rfl u,λ_=>hT _ _ _ λS fT=>⟨λu=>?_,λu=>⟨λi=>?_,λi=>?_⟩⟩⟩
 all_goals
  have w:=w0.KK fT
  have f1:∀c,H c≠none->S c=H c:=λc k=>by have e0:=f0 c λe=>k (by rw[e];exact hwb);rw[fT c (by rw[e0];exact k),e0]
 .exact he u S w.mg λc k _=>f1 c k
 .exact hb (ab.1 u) i S w.mg λc k _=>f1 c k
 have u:e=0:=ab.1 u;have i:y.Bool=false:=by simpa using i
 have na':Uh L M.S.n t (gV V) bd c pk:=na u i;have fix:∀{M':Mn},Dx M M'->M'.S.n=M.S.n:=λe=>e.n;refine LH w (by omega) (by omega) hL v λM2 lv2 H2 r2 k2 nx2=>?_;have l2:=k2.ln;simp only[ai,bc]at l2;refine LH k2.w (by omega) (by omega) hL (by rw[fix k2.w.bs];exact v) λR lv3 H3 r3 k3 nx3=>?_;have Y:=k2.trans k3;have l3:=Y.ln;simp only[List.length_append,ai,bc]at l3;refine(Y.perm (.swap _ _ _)).two (by omega) (λhM ha k=>Aod hM (by omega) (by omega) ha k) λM4 lv4 H4 E nx4=>?_;have l4:=E.ln;simp only[ai,bc]at l4;refine na' E.w (by omega) (by omega) (fix E.w.bs) λM5 g H5 r m k5 J D hm hz hlm nx5=>?_;have k5':=E.trans k5;have hrw:r≠o:=λe=>by rw[e,E.w.ob]at J;cases J
 have hrm:Fb b M r:=(E.w.mg.h.notM J).back E.w.bs;refine JB (b:=r) D (by omega) λc1 lo r1 N F=>?_;have k6:=k5'.fresh (y:=.lp N) F;have hr6:Ab H5 lo (.lp N) r=some (.mp I6 I6 m):=by rw[Ag _ _ λe=>by rw[<-e,D]at F;cases F];exact D
 generalize Ab H5 lo (.lp N)=H6 at k6 hr6;generalize hW:C6 (EA L false L.Aa.length) (EA L true L.Aa.length)=W at k6 h0;have hsl:=Pd m;refine λ_=>⟨λn z H'=>n=m.length-z.2.2.2.1/\z.2.2.2.1<=m.length/\z.2.2.1=AI m/\z.1=LG m (El V W ((AI m).take z.2.2.2.1))/\z.2.1=(El V W ((AI m).take z.2.2.2.1)).map (λn=>(Ad m n).getD 0)/\∃M',Wk S H' o b M M M' L [] g (Jm m (gV V)++[(R.nx,W)])/\H' r=some (.mp I6 I6 m)/\M'.nx=M5.nx,⟨_,rfl,a7 _,rfl,rfl,rfl,M5,k6,hr6,rfl⟩,?_⟩
 rintro n ⟨cs,kp,ks,j,_⟩ H7 ⟨hn0,Z,A,x,C,M7,p,K,U⟩;have hn1:n=m.length-j:=hn0;have hj:j<=m.length:=Z;have hks:ks=AI m:=A;have hcs:cs=LG m (El V W ((AI m).take j)):=x;have hkp:kp=(El V W ((AI m).take j)).map (λn=>(Ad m n).getD 0):=C;subst hks hcs hkp;have len:∀{q},(El V W ((AI m).take q)).length<=m.length:=λ{q}=>by have h1:=(Pv (V:=V) (W:=W) (l:=(AI m).take q)).length_le;rw[au]at h1;omega
 refine⟨λd _=>?_,λd=>?_⟩
 .have d:j<(AI m).length:=d;obtain⟨h,eh,_⟩:=Pe hm (ak d);have mh:=p.h.Aq (h,gV V (AI m)[j]) (ag _ (Ur eh));have mw:=p.h.Aq (R.nx,W) (by simp);have l7:=p.ln;have l7':(Jm m (gV V)++[(R.nx,W)]).length=m.length+1:=by unfold Jm;simp
  rw[l7']at l7;have tk:(AI m).take (j+1)=(AI m).take j++[(AI m)[j]]:=a8 d;refine⟨d,d,r,rfl,m,K,?_⟩;show qK Iv Gl (some b,(Ad m (AI m)[j]).getD 0,R.nx,()) H7 _ X;rw[eh,an];refine KJ p.w.mg (by omega) (by simp at l7;omega) mh mw λM8 P t ht g8 O f8=>?_;have k8:=p.kp g8 O f8;have T:P r=some (.mp I6 I6 m):=by rw[f8.at (by rw[K];simp) (hrm.same p.w.bs)];exact K
  have f:Ab P o (.st BJ ({m:=some b,l:=L,live:=g,e:=0}:Al))=P:=KQ k8.w.ob;refine⟨o,rfl,_,k8.w.ob,λ_=>⟨λI=>?_,λI=>?_⟩,λh=>qG rfl h⟩
  .have G:∃a,V a=some (AI m)[j]/\W a=true:=by obtain⟨a,h1,h2⟩:=ht.1 I;exact⟨a,FL.1 h1,h2⟩
   have q1:Ab P o (.st BJ ({m:=some b,l:=L,live:=g,e:=0}:Al)) r=some (.mp I6 I6 m):=by rw[f];exact T
   have q2:Wk S (Ab P o (.st BJ ({m:=some b,l:=L,live:=g,e:=0}:Al))) o b M M M8 L [] g (Jm m (gV V)++[(R.nx,W)]):=by rw[f];exact k8
   have ln:=len (q:=j);have s:El V W ((AI m).take (j+1))=El V W ((AI m).take j)++[(AI m)[j]]:=by rw[tk,Vu,UV G]
   refine⟨r,rfl,m,q1,?_,r,rfl,m,q1,?_,by show j+1<=_;omega,m.length-(j+1),by omega,rfl,by show j+1<=_;omega,rfl,?_,?_,M8,q2,q1,O.nx.trans U⟩
   .show ((LG m (El V W ((AI m).take j))).length+1)*16<=_;unfold LG;rw[ad];omega
   .show (((El V W ((AI m).take j)).map λn=>(Ad m n).getD 0).length+1)*8<=_;rw[ad];omega
   .show LG m _++[_]=LG m (El V W ((AI m).take (j+1)));rw[s];unfold LG;rw[ao];rfl
   .show bw _ _++[_]=bw _ (El V W ((AI m).take (j+1)));rw[s,ao];rfl
  .have G:¬∃a,V a=some (AI m)[j]/\W a=true:=λ⟨a,h1,h2⟩=>I (ht.2 ⟨a,FL.2 h1,h2⟩);have q1:Ab P o (.st BJ ({m:=some b,l:=L,live:=g,e:=0}:Al)) r=some (.mp I6 I6 m):=by rw[f];exact T
   have q2:Wk S (Ab P o (.st BJ ({m:=some b,l:=L,live:=g,e:=0}:Al))) o b M M M8 L [] g (Jm m (gV V)++[(R.nx,W)]):=by rw[f];exact k8
   have s:El V W ((AI m).take (j+1))=El V W ((AI m).take j):=by rw[tk,Vu,GT G]
   refine⟨by show j+1<=_;omega,m.length-(j+1),by omega,rfl,by show j+1<=_;omega,rfl,?_,?_,M8,q2,q1,O.nx.trans U⟩
   .show LG m _=LG m (El V W ((AI m).take (j+1)));rw[s]
   .show bw _ _=bw _ (El V W ((AI m).take (j+1)));rw[s]
 .have d:¬j<(AI m).length:=d;have hjm:j=m.length:=by omega
  have tk:(AI m).take j=AI m:=af (by omega);have ln:=len (q:=j);rw[tk]at ln;rw[tk];refine T6 p.w (by omega) (by rw[ad];omega) λM9 H9 g9 e9 f9=>⟨λh=>qG rfl h,λ_=>h0 u i M9 H9 _ g9 (Ajs p hm hz e9) (by rw[e9.nx];omega) λc k nc=>?_⟩
  have hcw:c≠o:=λe=>k (by rw[e];exact hwb);have s:=f1 c k;have e2:=p.f c (by rw[s];exact k) hcw nc;rw[f9 c (by rw[e2,s];exact k) hcw (nc.same p.w.bs),e2,s]
end
section
set_option maxRecDepth 100000
set_option maxHeartbeats 2000000
def Ake(c:Int)(H:HY)(Q:Bool×UT->UU)(_:PX):=(Cg c->Q (true,()) () H)/\(¬Cg c->(isDigit c->Q (true,()) () H)/\(¬isDigit c->Q (decide (c=95),()) () H))
theorem Aqa c H Q X(h_:Ake c H Q X):qK JL Hy (c,()) H Q X:=wF Tryz.f204 {} h_
def F3(s:List ByteArray)(v:ByteArray)(H:HY)(Q:Int×UT->UU)(_:PX):=s.length<=2^63-1->∃(V:Nat->Int×UT->Prop),(∃(n:Nat),H=H/\V n (0,()))/\∀n x,V n x->(x.1<(↑s.length:Int)->IK x.1->(IK x.1->0<=x.1)/\∃(h:x.1.toNat<s.length),(v=s[x.1.toNat]->Q (x.1,()) () H)/\(¬v=s[x.1.toNat]->IK x.1->IK (x.1+1)/\∃m,m<n/\H=H/\V m (x.1+1,())))/\(¬x.1<(↑s.length:Int)->Q (-1,()) () H)
theorem Kl s v H Q X(h_:F3 s v H Q X):qK F8 DB (s,v,()) H Q X:=wF Tryz.f249 {lp:=[(2,⟨[(8,.one (.dat I6))],[0,1,7],false⟩)]} h_
def Np(w:Ar)(p1:Option Nat)(H:HY)(Q:Bool×UT->UU)(_:PX):=∃(b:Nat),p1=some b/\∃(x:Ar),H b=some (Ob.st GP x)/\x=x/\Q (decide (w.qJ=x.qJ),()) () H
theorem TQ w p1 H Q X(h_:Np w p1 H Q X):qK Kt HQ (w,p1,()) H Q X:=wF Tryz.f158 {im:=[2]} h_
def BW(s:List Ar)(f:Ar×UT->HY->(Bool×UT->HP)->PX->Prop)(H:HY)(Q:Bool×UT->UU)(X:PX):=qK Ch By (s,f,()) H (λ(b:Int×UT)_ G=>Q (decide (0<=b.1),()) () G) X
theorem D7 s f H Q X(h_:BW s f H Q X):qK Bq AQ (s,f,()) H Q X:=wF Tryz.f160 {} h_
def Ce(s:List Ar)(f:Ar×UT->HY->(Bool×UT->HP)->PX->Prop)(H:HY)(Q:Int×UT->UU)(X:PX):=s.length<=2^63-1->∃(V:Nat->Int×UT->HP),(∃(n:Nat),V n (0,()) H)/\∀n x H,V n x H->(x.1<(↑s.length:Int)->IK x.1->(IK x.1->0<=x.1)/\∃(h:x.1.toNat<s.length),f (s[x.1.toNat],()) H (λ(b:Bool×UT)(G:HY)=>(b.1->Q (x.1,()) () G)/\(¬b.1->IK x.1->IK (x.1+1)/\∃m,m<n/\V m (x.1+1,()) G)) X)/\(¬x.1<(↑s.length:Int)->Q (-1,()) () H)
theorem DH s f H Q X(h_:Ce s f H Q X):qK Ch By (s,f,()) H Q X:=wF Tryz.f206 {lp:=[(2,⟨[(8,.one (.dat I6))],[0,1,7],true⟩)]} h_
def Jh(H:HY)(Q:List ByteArray×UT->UU)(_:PX):=Q (He,()) () H
theorem N4 H Q X(h_:Jh  H Q X):qK Jo FF (()) H Q X:=wF Tryz.f157 {} h_
def ZZ(n:Int)(H:HY)(Q:Bool×UT->UU)(_:PX):=((-255:Int)<=n->Q (decide (n<=255),()) () H)/\(¬(-255:Int)<=n->Q (false,()) () H)
theorem Ae6 n H Q X(h_:ZZ n H Q X):qK CW Cv (n,()) H Q X:=wF Tryz.f83 {} h_
def JR(m:Im)(H:HY)(Q:Int×UT->UU)(X:PX):=∃(V:Nat->Int×Nat×UT->Prop),(∃(n:Nat),H=H/\V n (0,0,()))/\∀n x,V n x->m.Aa.length<=2^63-1->(x.2.1<m.Aa.length->x.2.1<=2^63-1->∃(h:x.2.1<m.Aa.length),qK BT BE (m.Aa[x.2.1],()) H (λ(b:Int×UT)_ G=>qK JX Gi (b.1,()) G (λ(b:Int×UT)_ G=>IK x.1->IK b.1->IK (x.1+b.1)/\x.2.1+1<=2^63-1/\∃m,m<n/\G=H/\V m (x.1+b.1,x.2.1+1,())) X) X)/\(¬x.2.1<m.Aa.length->Q (x.1,()) () H)
theorem NL m H Q X(h_:JR m H Q X):qK JW Gh (m,()) H Q X:=wF Tryz.f79 {lp:=[(3,⟨[(3,.one (.dat I6)),(4,.nat)],[1],false⟩)],im:=[1]} h_
def Ji(l:List Int)(n:Int)(H:HY)(Q:Bool×UT->UU)(_:PX):=l.length<=2^63-1->(¬(↑l.length:Int)=n->Q (false,()) () H)/\(¬¬(↑l.length:Int)=n->∃(V:Nat->Nat×UT->Prop),(∃(n:Nat),H=H/\V n (0,()))/\∀n1 x,V n1 x->((↑x.1:Int)<n->∃(V1:Nat->Nat×Nat×UT->Prop),(∃(n:Nat),H=H/\V1 n (0,0,()))/\∀n2 x1,V1 n2 x1->((↑x1.2.1:Int)<n->x1.2.1<=2^63-1->∃(h:x1.2.1<l.length),(l[x1.2.1]=(↑x.1:Int)->x1.1+1<=2^63-1/\x1.2.1+1<=2^63-1/\∃m,m<n2/\H=H/\V1 m (x1.1+1,x1.2.1+1,()))/\(¬l[x1.2.1]=(↑x.1:Int)->x1.2.1+1<=2^63-1/\∃m,m<n2/\H=H/\V1 m (x1.1,x1.2.1+1,())))/\(¬(↑x1.2.1:Int)<n->(¬x1.1=1->Q (false,()) () H)/\(¬¬x1.1=1->x.1+1<=2^63-1/\∃m,m<n1/\H=H/\V m (x.1+1,()))))/\(¬(↑x.1:Int)<n->Q (true,()) () H))
end
section
def byI(s:ByteArray)(i:Nat)(h:i<s.size):Int:=(↑(↑s[i].toBitVec.toFin:Nat):Int)
def NC(c:Int):Bool:=Cg c ||isDigit c ||decide (c=95)
structure Aj3(s:ByteArray):Prop where
 n0:1<=s.size
 n1:s.size<=24
 l0:∀h:0<s.size,Cg (byI s 0 h)=true
 ins:∀i(h:i<s.size),NC (byI s i h)=true
 nw:s∉He
variable {s:ByteArray}
theorem Afs:(¬s={data:={toList:=[]:Array UInt8}:ByteArray})↔1<=s.size:=by
 refine⟨λh=>a9 λb=>h ?_,λh e=>?_⟩
 .have:s.size=0:=by omega
  obtain⟨⟨l⟩⟩:=s;cases l with
  |nil=>rfl
  |cons a l=>exact qG (show (a::l).length=0 from this) (by simp)
 .rw[e]at h;exact qG h (by decide)
variable {H:HY} {X:PX} {Q:Bool×Unit->UU}
theorem Vq{c:Int}(h:Q (NC c,()) () H):qK JL Hy (c,()) H Q X:=by grind[Aqa,Ake,NC,Cg,isDigit]
def As6(s:ByteArray)(n:Nat):Prop:=n<=s.size/\(∀i(h:i<s.size),i<n->NC (byI s i h)=true)/\(∀h:n<s.size,NC (byI s n h)=false)
theorem As6.all{n:Nat}(h:As6 s n):n=s.size↔∀i(h:i<s.size),NC (byI s i h)=true:=by
 refine⟨λe i c=>h.2.1 i c (by omega),λb=>a9 λf=>?_⟩;have d:=h.1;have a:n<s.size:=by omega
 have:=h.2.2 a;grind
theorem Abi{Q:Int×Unit->UU}(hs:s.size<=1000000)(h:∀n,As6 s n->Q ((n:Int),()) () H):qK VF Qy (s,λ(a:Int×Unit)(H:HY)(Q:Bool×Unit->HP)(X:Nat->Lf Y0.D->HP)=>qK JL Hy (a.1,()) H (λ(b:Bool×Unit)(_:Unit)(m:HY)=>Q (b.1,()) m) X,()) H Q X:=by
 refine wF Tryz.f203 {lp:=[(2,⟨[(5,.nat)],[0,1],true⟩)]} (?_:∃(V:Nat->Nat×UT->HP),(∃(n:Nat),V n (0,()) H)/\∀n e H,V n e H->s.size<=2^63-1->(e.1<s.size->e.1<=2^63-1->∃(h:e.1<s.size),(λ(a:Int×UT)(H:HY)(Q:Bool×UT->HP)(X:Nat->Lf Y0.D->HP)=>qK JL Hy (a.1,()) H (λ(b:Bool×UT)(x:UT)(m:HY)=>Q (b.1,()) m) X) ((↑(↑s[e.1].toBitVec.toFin:Nat):Int),()) H (λ(c:Bool×UT)(G:HY)=>(c.1->e.1+1<=2^63-1/\∃d,d<n/\V d (e.1+1,()) G)/\(¬c.1->Q ((↑e.1:Int),()) () G)) X)/\(¬e.1<s.size->Q ((↑e.1:Int),()) () H));refine⟨λn z m=>m=H/\n=s.size-z.1/\z.1<=s.size/\∀i(h:i<s.size),i<z.1->NC (byI s i h)=true,⟨_,rfl,rfl,a7 _,λi _ g=>qG g (ac _)⟩,?_⟩;rintro n ⟨k,_⟩ m ⟨rfl,f,l,d⟩;have r:n=s.size-k:=f;have q:k<=s.size:=l;have o:∀i(h:i<s.size),i<k->NC (byI s i h)=true:=d;refine λ_=>⟨λc _=>?_,λc=>?_⟩
 .have c:k<s.size:=c;refine⟨c,Vq ⟨λg=>⟨by grind,s.size-(k+1),by omega,rfl,rfl,by grind,λi h j=>?_⟩,λg=>?_⟩⟩
  .have j:i<k+1:=j;by_cases e:i=k
   .subst e;exact g
   grind
  .refine h k ⟨q,o,λp=>?_⟩;grind[NC,byI]
 .have c:¬k<s.size:=c;have:k=s.size:=by omega
  subst this;exact h _ ⟨q,o,λp=>qG p (bx _)⟩
theorem Z1{l:List ByteArray}(m:l.length<=1000)(h:∀t:Bool,(t=true↔s∈l)->Q (t,()) () H):qK EB De (l,s,()) H Q X:=by
 refine wF Tryz.f205 {} (?_:qK F8 DB (l,s,()) H (λ(b:Int×UT)_ G=>Q (decide (0<=b.1),()) () G) X);apply Kl;unfold F3;refine λ_=>⟨λn z=>∃k:Nat,z.1=(k:Int)/\n=l.length-k/\k<=l.length/\s∉l.take k,⟨_,rfl,0,rfl,rfl,a7 _,by simp⟩,?_⟩
 rintro n ⟨x,_⟩ ⟨k,d,o,p,f⟩;have i:x=(k:Int):=d;subst i;have g:((k:Int)).toNat=k:=by omega
 refine⟨λa _=>?_,λa=>?_⟩
 .have a:(k:Int)<(l.length:Int):=a;have c:k<l.length:=by omega
  refine⟨λ_=>by omega,by omega,λb=>?_,λb _=>⟨A7.2 (by omega),l.length-(k+1),by omega,rfl,k+1,by rfl,rfl,by omega,?_⟩⟩
  .grind
  .have b:¬s=l[((k:Int)).toNat]'(by omega):=b;simp only[g]at b;rw[a8 c,ax,aj];exact λj=>j.elim f b
 grind
theorem Ad8(hs:Aj3 s)(h:Q (true,()) () H):qK Tp Pl (s,()) H Q X:=by
 refine wF Tryz.f159 {} (?_:(¬s={data:={toList:=[]:Array UInt8}:ByteArray}->s.size<=2^63-1->(s.size<=24->(True->(0:Int)<=0)/\∃(h:a5 (0:Int)<s.size),(Cg (↑(↑s[a5 (0:Int)].toBitVec.toFin:Nat):Int)->qK VF Qy (s,λ(a:Int×UT)(H:HY)(Q:Bool×UT->HP)(X:Nat->Lf Y0.D->HP)=>qK JL Hy (a.1,()) H (λ(b:Bool×UT)(x:UT)(G:HY)=>Q (b.1,()) G) X,()) H (λ(b:Int×UT)_ G=>s.size<=2^63-1->(b.1=(↑s.size:Int)->qK EB De (He,s,()) G (λ(b:Bool×UT)_ G=>Q (decide ¬b.1=true,()) () G) X)/\(¬b.1=(↑s.size:Int)->Q (false,()) () G)) X)/\(¬Cg (↑(↑s[a5 (0:Int)].toBitVec.toFin:Nat):Int)->Q (false,()) () H))/\(¬s.size<=24->Q (false,()) () H))/\(¬¬s={data:={toList:=[]:Array UInt8}:ByteArray}->Q (false,()) () H));have c:=hs.n0;have b:=hs.n1;refine⟨λ_ _=>⟨λ_=>⟨λ_=>by omega,by omega,λ_=>Abi (by omega) λn d _=>⟨λ_=>Z1 (by decide) λt f=>?_,λa=>qG (congrArg _ (d.all.2 hs.ins)) a⟩,λa=>qG (hs.l0 (by omega)) a⟩,λa=>qG b a⟩,λa=>qG (Afs.2 c) a⟩;have e:t=false:=by
  cases e:t with
  |false=>rfl
  |true=>exact qG (f.1 e) hs.nw
 grind
theorem YH{Q:Int×Unit->UU}(hs:s.size<=1000000)(h:∀n,As6 s n->Q ((n:Int),()) () H):qK K0 Hh (s,0,false,()) H Q X:=by
 refine wF Tryz.f155 {lp:=[(1,⟨[(1,.one (.dat I6))],[0,2],false⟩)]} (?_:∃(V:Nat->Int×UT->Prop),(∃(n:Nat),H=H/\V n (0,()))/\∀n x,V n x->s.size<=2^63-1->(x.1<(↑s.size:Int)->IK x.1->(IK x.1->0<=x.1)/\∃(h:x.1.toNat<s.size),(isDigit (↑(↑s[x.1.toNat].toBitVec.toFin:Nat):Int)->IK x.1->IK (x.1+1)/\∃m,m<n/\H=H/\V m (x.1+1,()))/\(¬isDigit (↑(↑s[x.1.toNat].toBitVec.toFin:Nat):Int)->(¬false->IK x.1->(IK x.1->0<=x.1)/\∃(h:x.1.toNat<s.size),(Cg (↑(↑s[x.1.toNat].toBitVec.toFin:Nat):Int)->IK x.1->IK (x.1+1)/\∃m,m<n/\H=H/\V m (x.1+1,()))/\(¬Cg (↑(↑s[x.1.toNat].toBitVec.toFin:Nat):Int)->IK x.1->(IK x.1->0<=x.1)/\∃(h:x.1.toNat<s.size),((↑(↑s[x.1.toNat].toBitVec.toFin:Nat):Int)=95->IK x.1->IK (x.1+1)/\∃m,m<n/\H=H/\V m (x.1+1,()))/\(¬(↑(↑s[x.1.toNat].toBitVec.toFin:Nat):Int)=95->Q (x.1,()) () H)))/\(¬¬false->Q (x.1,()) () H)))/\(¬x.1<(↑s.size:Int)->Q (x.1,()) () H));refine⟨λn z=>∃k:Nat,z.1=(k:Int)/\n=s.size-k/\k<=s.size/\∀i(h:i<s.size),i<k->NC (byI s i h)=true,⟨_,rfl,0,rfl,rfl,a7 _,λi _ o=>qG o (ac _)⟩,?_⟩;rintro n ⟨x,_⟩ ⟨k,t,G,y,v⟩;have F:x=(k:Int):=t;subst F;have E:((k:Int)).toNat=k:=by omega
 refine λ_=>⟨λb _=>?_,λb=>?_⟩
 .have b:(k:Int)<(s.size:Int):=b;have a:k<s.size:=by omega
  have w:Bn .i64 (k:Int)->(0:Int)<=(k:Int):=λ_=>by omega
  have d:((k:Int)).toNat<s.size:=by omega
  have r:Bn .i64 ((k:Int)+1):=A7.2 (by omega);have g:∀(q:((k:Int)).toNat<s.size),(↑(↑(s[((k:Int)).toNat]'q).toBitVec.toFin:Nat):Int)=byI s k a:=λq=>by rfl
  have u:NC (byI s k a)=true->∃m<n,H=H/\∃p:Nat,(k:Int)+1=(p:Int)/\m=s.size-p/\p<=s.size/\∀i(h:i<s.size),i<p->NC (byI s i h)=true:=λo=>⟨s.size-(k+1),by omega,rfl,k+1,by omega,rfl,by omega,λi h D=>by grind⟩
  have l:NC (byI s k a)=false->Q ((k:Int),()) () H:=λo=>h k ⟨y,v,λA=>o⟩;grind[isDigit,NC,Cg,byI,decide_eq_false]
 .have b:¬(k:Int)<(s.size:Int):=b;have:k=s.size:=by omega
  subst this;exact h _ ⟨y,v,λA=>qG A (bx _)⟩
theorem UN{l:List ByteArray}(o:l.length<=1000)(h:∀t:Bool,(t=true↔s∈l)->Q (t,()) () H):qK Jn FE (l,s,()) H Q X:=by
 refine wF Tryz.f156 {lp:=[(2,⟨[(5,.nat)],[0,1],false⟩)]} (?_:∃(V:Nat->Nat×UT->Prop),(∃(n:Nat),H=H/\V n (0,()))/\∀n x,V n x->l.length<=2^63-1->(x.1<l.length->x.1<=2^63-1->∃(h:x.1<l.length),(l[x.1]=s->Q (true,()) () H)/\(¬l[x.1]=s->x.1+1<=2^63-1/\∃m,m<n/\H=H/\V m (x.1+1,())))/\(¬x.1<l.length->Q (false,()) () H));refine⟨λn z=>n=l.length-z.1/\z.1<=l.length/\s∉l.take z.1,⟨_,rfl,rfl,a7 _,by simp⟩,?_⟩;rintro n ⟨k,_⟩ ⟨c,d,b⟩;have j:n=l.length-k:=c;have m:k<=l.length:=d;have f:s∉l.take k:=b;refine λ_=>⟨λa _=>?_,λa=>?_⟩
 .have a:k<l.length:=a;refine⟨a,λg=>?_,λg=>⟨by grind,l.length-(k+1),by omega,rfl,rfl,by grind,?_⟩⟩
  .grind
  .show s∉l.take (k+1);rw[a8 a,ax,aj];exact λi=>i.elim f λe=>g e.symm
 grind
theorem Aao(h:∀t:Bool,(t=true↔Aj3 s)->Q (t,()) () H):qK Lk HV (s,()) H Q X:=by
 refine wF Tryz.f82 {} (?_:s.size<=2^63-1->(1<=s.size->s.size<=2^63-1->(s.size<=24->(True->(0:Int)<=0)/\∃(h:a5 (0:Int)<s.size),(Cg (↑(↑s[a5 (0:Int)].toBitVec.toFin:Nat):Int)->qK K0 Hh (s,0,false,()) H (λ(b:Int×UT)_ G=>s.size<=2^63-1->(b.1=(↑s.size:Int)->qK Jo FF () G (λ(b:List ByteArray×UT)_ G=>qK Jn FE (b.1,s,()) G (λ(b:Bool×UT)_ G=>Q (decide ¬b.1=true,()) () G) X) X)/\(¬b.1=(↑s.size:Int)->Q (false,()) () G)) X)/\(¬Cg (↑(↑s[a5 (0:Int)].toBitVec.toFin:Nat):Int)->Q (false,()) () H))/\(¬s.size<=24->Q (false,()) () H))/\(¬1<=s.size->Q (false,()) () H));have b:∀{P:Prop},¬P->(Aj3 s->P)->Q (false,()) () H:=λi j=>h false ⟨λe=>qG e (by decide),λe=>qG (j e) i⟩;refine λ_=>⟨λg _=>⟨λd=>⟨λ_=>by omega,by grind,λl=>YH (by grind) λn f _=>⟨λc=>?_,λa=>b a λe=>congrArg _ (f.all.2 e.ins)⟩,λa=>b a λe=>e.l0 _⟩,λa=>b a λe=>e.n1⟩,λa=>b a λe=>e.n0⟩
 have c:(n:Int)=(s.size:Int):=c;have c:n=s.size:=by omega
 apply N4;unfold Jh;refine UN (by decide) λt k=>h _ ?_;show decide (¬t=true)=true↔_;rw[decide_eq_true_iff,k];exact⟨λe=>⟨g,d,λ_=>l,f.all.1 c,e⟩,λe=>e.nw⟩
end
section
set_option maxRecDepth 100000
set_option maxHeartbeats 2000000
def Kx(t:Ae)(most:Int)(H:HY)(Q:Int×UT->UU)(X:PX):=∃(V:Nat->Int×Nat×UT->Prop),(∃(n:Nat),H=H/\V n (most,0,()))/\∀n x,V n x->t.qZ.length<=2^63-1->(x.2.1<t.qZ.length->(0<=x.1->x.2.1<=2^63-1->∃(h:x.2.1<t.qZ.length),IK x.1->IK (x.1-1)/\qK EI DD (t.qZ[x.2.1],x.1-1,()) H (λ(b:Int×UT)_ G=>x.2.1+1<=2^63-1/\∃m,m<n/\G=H/\V m (b.1,x.2.1+1,())) X)/\(¬0<=x.1->Q (x.1,()) () H))/\(¬x.2.1<t.qZ.length->Q (x.1,()) () H)
theorem P9 t most H Q X(h_:Kx t most H Q X):qK EI DD (t,most,()) H Q X:=wF Tryz.f9 {lp:=[(2,⟨[(1,.one (.dat I6)),(5,.nat)],[2],false⟩)],im:=[2]} h_
def Io(m:Option Nat)(order:List Int)(H:HY)(Q:Bool×UT->UU)(X:PX):=∃(V:Nat->Int×UT->HP),(∃(n:Nat),V n (0,()) H)/\∀n x H,V n x H->order.length<=2^63-1->(x.1<(↑order.length:Int)->qK O0 KY (m,()) H (λ(b:List Int×UT)_ G=>∃(V1:Nat->List Int×Int×UT->HP),(∃(n:Nat),V1 n (b.1,x.1,()) G)/\∀n1 x1 H,V1 n1 x1 H->x1.1.length<=2^63-1->(x1.2.1<(↑x1.1.length:Int)->IK x1.2.1->(IK x1.2.1->0<=x1.2.1)/\∃(h:x1.2.1.toNat<x1.1.length),∃(h:x1.2.1.toNat<x1.1.length),IK x.1->(IK x.1->0<=x.1)/\∃(h1:x.1.toNat<order.length),(¬x1.1[x1.2.1.toNat]=order[x.1.toNat]->IK x1.2.1->IK (x1.2.1+1)/\∃m,m<n1/\V1 m (x1.1,x1.2.1+1,()) H)/\(¬¬x1.1[x1.2.1.toNat]=order[x.1.toNat]->x1.1.length<=2^63-1->order.length<=2^63-1->(¬x1.1.length=order.length->Q (false,()) () H)/\(¬¬x1.1.length=order.length->x1.1.length<=2^63-1->(x1.2.1=(↑x1.1.length:Int)->Q (false,()) () H)/\(¬x1.2.1=(↑x1.1.length:Int)->∃(V2:Nat->Int×UT->HP),(∃(n:Nat),V2 n (x1.2.1,()) H)/\∀n2 x2 H,V2 n2 x2 H->(x.1<x2.1->IK x2.1->IK (x2.1-1)/\qK JN HA (m,x2.1-1,()) H (λ(b:Int×UT)_ G=>(¬b.1=0->Q (false,()) () G)/\(¬¬b.1=0->IK x2.1->IK (x2.1-1)/\∃m,m<n2/\V2 m (x2.1-1,()) G)) X)/\(¬x.1<x2.1->IK x.1->IK (x.1+1)/\∃m,m<n/\V m (x.1+1,()) H)))))/\(¬x1.2.1<(↑x1.1.length:Int)->x1.1.length<=2^63-1->order.length<=2^63-1->(¬x1.1.length=order.length->Q (false,()) () H)/\(¬¬x1.1.length=order.length->x1.1.length<=2^63-1->(x1.2.1=(↑x1.1.length:Int)->Q (false,()) () H)/\(¬x1.2.1=(↑x1.1.length:Int)->∃(V2:Nat->Int×UT->HP),(∃(n:Nat),V2 n (x1.2.1,()) H)/\∀n2 x2 H,V2 n2 x2 H->(x.1<x2.1->IK x2.1->IK (x2.1-1)/\qK JN HA (m,x2.1-1,()) H (λ(b:Int×UT)_ G=>(¬b.1=0->Q (false,()) () G)/\(¬¬b.1=0->IK x2.1->IK (x2.1-1)/\∃m,m<n2/\V2 m (x2.1-1,()) G)) X)/\(¬x.1<x2.1->IK x.1->IK (x.1+1)/\∃m,m<n/\V m (x.1+1,()) H))))) X)/\(¬x.1<(↑order.length:Int)->Q (true,()) () H)
def KV(m:Option Nat)(h k:Int)(H:HY)(Q:Bool×UT->UU)(X:PX):=∃(V:Nat->List Bool×Nat×UT->HP),(∃(n:Nat),V n ([],0,()) H)/\∀n x H,V n x H->qK E9 DM (m,()) H (λ(b:Int×UT)_ G=>((↑x.2.1:Int)<b.1->qK Jp FG (k,(↑x.2.1:Int),()) G (λ(b:Bool×UT)_ G=>(x.1.length+[b.1].length)*1<=2^47/\x.2.1+1<=2^63-1/\∃m,m<n/\V m (x.1++[b.1],x.2.1+1,()) G) X)/\(¬(↑x.2.1:Int)<b.1->qK Qc LR (m,h,x.1,()) G (λ(b:Bool×Int×UT)_ G=>(b.1->Q (decide (b.2.1=0),()) () G)/\(¬b.1->Q (false,()) () G)) X)) X
def Jj(H:HY)(Q:Bool×UT->UU)(X:PX):=qK FO Ej ({Aa:=[{qJ:={data:={toList:=[(110:UInt8)]:Array UInt8}:ByteArray},Bool:=false,Lo:=0,Hi:=2:Ar}],Order:=[],ED:=[]:BH},()) H (λ(b:Option Nat×Ac×Bool×UT)_ G=>(¬b.2.2.1->Q (false,()) () G)/\(¬¬b.2.2.1->qK Me JE (b.1,b.2.1,{Op:=14,N:=0,qJ:={data:={toList:=[]:Array UInt8}:ByteArray},qZ:=[{Op:=3,N:=0,qJ:={data:={toList:=[(110:UInt8)]:Array UInt8}:ByteArray},qZ:=[]:Ae},{Op:=1,N:=1,qJ:={data:={toList:=[]:Array UInt8}:ByteArray},qZ:=[]:Ae}]:Ae},()) G (λ(b1:List BU×Int×UT)_ G=>qK JP HC (b.1,b.2.1,false,()) G (λ(b2:Int×Int×UT)_ G=>(b1.2.1=0->(b2.2.1=0->b1.1.length<=2^63-1->(b1.1.length=3->(True->(0:Int)<=0)/\∃(h:a5 (0:Int)<b1.1.length),∃(h:a5 (0:Int)<b1.1.length),(b1.1[a5 (0:Int)].N=1->(True->(0:Int)<=2)/\∃(h:a5 (2:Int)<b1.1.length),∃(h:a5 (2:Int)<b1.1.length),(b1.1[a5 (2:Int)].N=3->qK Fv DX (b.1,b2.1,4,()) G (λ(b3:Bool×UT)_ G=>(b3.1->qK Fv DX (b.1,b2.1,5,()) G (λ(b4:Bool×UT)_ G=>(¬b4.1->(True->(0:Int)<=1)/\∃(h:a5 (1:Int)<b1.1.length),∃(h:a5 (1:Int)<b1.1.length),qK Fv DX (b.1,b1.1[a5 (1:Int)].H,1,()) G (λ(b:Bool×UT)_ G=>Q (b.1,()) () G) X)/\(¬¬b4.1->Q (false,()) () G)) X)/\(¬b3.1->Q (false,()) () G)) X)/\(¬b1.1[a5 (2:Int)].N=3->Q (false,()) () G))/\(¬b1.1[a5 (0:Int)].N=1->Q (false,()) () G))/\(¬b1.1.length=3->Q (false,()) () G))/\(¬b2.2.1=0->Q (false,()) () G))/\(¬b1.2.1=0->Q (false,()) () G)) X) X)) X
theorem N5 H Q X(h_:Jj  H Q X):qK BM B7 (()) H Q X:=wF Tryz.f10 {} h_
def GF(op:Int)(H:HY)(Q:Int×Int×UT->UU)(_:PX):=(op=1->Q (0,0,()) () H)/\(¬op=1->(op=2->Q (0,0,()) () H)/\(¬op=2->(op=3->Q (0,0,()) () H)/\(¬op=3->(op=4->Q (0,0,()) () H)/\(¬op=4->(op=5->Q (1,1,()) () H)/\(¬op=5->(op=6->Q (1,64,()) () H)/\(¬op=6->(op=7->Q (1,64,()) () H)/\(¬op=7->(op=8->Q (2,2,()) () H)/\(¬op=8->(op=9->Q (2,2,()) () H)/\(¬op=9->(op=10->Q (2,2,()) () H)/\(¬op=10->(op=11->Q (2,2,()) () H)/\(¬op=11->(op=12->Q (2,2,()) () H)/\(¬op=12->(op=13->Q (2,2,()) () H)/\(¬op=13->(op=14->Q (2,2,()) () H)/\(¬op=14->(op=15->Q (2,2,()) () H)/\(¬op=15->(op=16->Q (2,2,()) () H)/\(¬op=16->(op=17->Q (2,2,()) () H)/\(¬op=17->(op=18->Q (3,3,()) () H)/\(¬op=18->Q (-1,-1,()) () H))))))))))))))))))
theorem Yz op H Q X(h_:GF op H Q X):qK IP GI (op,()) H Q X:=wF Tryz.f219 {} h_
def JA(t:Ae)(H:HY)(Q:Int×UT->UU)(X:PX):=∀(b:Nat),H b=none->∀(b1:Nat),Ab H b (Ob.st Ba (0:Int)) b1=none->∃(x:Int),Ab (Ab H b (Ob.st Ba (0:Int))) b1 (Ob.st Ba (0:Int)) b=some (Ob.st Ba x)/\∃(x:Int),Ab (Ab (Ab H b (Ob.st Ba (0:Int))) b1 (Ob.st Ba (0:Int))) b (Ob.st Ba (0:Int)) b1=some (Ob.st Ba x)/\qK Fw Ex (t,1,λ(a:Ae×Int×UT)(H:HY)(Q:Bool×UT->HP)(X:Nat->Lf Y0.D->HP)=>qK F7 Ep (a.1,a.2.1,some b1,some b,()) H (λ(b:Bool×UT)(_:UT)(G:HY)=>Q (b.1,()) G) X,()) (Ab (Ab (Ab (Ab H b (Ob.st Ba (0:Int))) b1 (Ob.st Ba (0:Int))) b (Ob.st Ba (0:Int))) b1 (Ob.st Ba (0:Int))) (λ(_:Bool×UT)_ G=>∃(x:Int),G b=some (Ob.st Ba x)/\x=x/\Q (x,()) () G) X
def HN(t:Ae)(deep:Int)(p2 p3:Option Nat)(H:HY)(Q:Bool×UT->UU)(X:PX):=∃(b:Nat),p2=some b/\∃(x:Int),H b=some (Ob.st Ba x)/\(IK x->IK (x+1)/\((64:Int)<deep->∃(b1:Nat),p3=some b1/\∃(x1:Int),Ab H b (Ob.st Ba (x+1)) b1=some (Ob.st Ba x1)/\Q (decide ((17:Int)=0),()) () (Ab (Ab H b (Ob.st Ba (x+1))) b1 (Ob.st Ba (17:Int))))/\(¬(64:Int)<deep->qK JK Hw (t,()) (Ab H b (Ob.st Ba (x+1))) (λ(b1:Int×UT)_ G=>∃(b2:Nat),p3=some b2/\∃(x:Int),G b2=some (Ob.st Ba x)/\(b1.1=0->∃(x:Int),Ab G b2 (Ob.st Ba b1.1) b=some (Ob.st Ba x)/\((4096:Int)<x->x=x/\∃(x:Int),Ab G b2 (Ob.st Ba b1.1) b2=some (Ob.st Ba x)/\Q (decide ((4:Int)=0),()) () (Ab (Ab G b2 (Ob.st Ba b1.1)) b2 (Ob.st Ba (4:Int))))/\(¬(4096:Int)<x->x=x/\∃(x:Int),Ab G b2 (Ob.st Ba b1.1) b2=some (Ob.st Ba x)/\x=x/\Q (decide (x=0),()) () (Ab G b2 (Ob.st Ba b1.1))))/\(¬b1.1=0->Q (decide (b1.1=0),()) () (Ab G b2 (Ob.st Ba b1.1)))) X))
def MK(t:Ae)(deep:Int)(J3:Ae×Int×UT->HY->(Bool×UT->HP)->PX->Prop)(H:HY)(Q:Bool×UT->UU)(X:PX):=J3 (t,deep,()) H (λ(b:Bool×UT)(G:HY)=>(¬b.1->Q (false,()) () G)/\(¬¬b.1->t.qZ.length<=2^63-1->∃(V:Nat->Nat×UT->HP),(∃(n:Nat),V n (0,()) G)/\∀n x H,V n x H->(x.1<t.qZ.length->x.1<=2^63-1->∃(h:x.1<t.qZ.length),IK deep->IK (deep+1)/\qK Fw Ex ({Op:=t.qZ[x.1].Op,N:=t.qZ[x.1].N,qJ:=t.qZ[x.1].qJ,qZ:=t.qZ[x.1].qZ:Ae},deep+1,J3,()) H (λ(b:Bool×UT)_ G=>(¬b.1->Q (false,()) () G)/\(¬¬b.1->x.1+1<=2^63-1/\∃m,m<n/\V m (x.1+1,()) G)) X)/\(¬x.1<t.qZ.length->Q (true,()) () H))) X
theorem Rb t deep J3 H Q X(h_:MK t deep J3 H Q X):qK Fw Ex (t,deep,J3,()) H Q X:=wF Tryz.f164 {lp:=[(4,⟨[(17,.nat)],[1,2,15,16],true⟩)],im:=[3]} h_
def FA(t:Ae)(H:HY)(Q:Int×UT->UU)(X:PX):=qK IP GI (t.Op,()) H (λ(b:Int×Int×UT)_ G=>(b.1<0->Q (11,()) () G)/\(¬b.1<0->(t.Op=1->(t.Op=3->(t.N < -255->Q (2,()) () G)/\(¬t.N < -255->((255:Int)<t.N->Q (2,()) () G)/\(¬(255:Int)<t.N->(t.qJ={data:={toList:=[]:Array UInt8}:ByteArray}->Q (12,()) () G)/\(¬t.qJ={data:={toList:=[]:Array UInt8}:ByteArray}->t.qJ.size<=2^63-1->(24<t.qJ.size->Q (12,()) () G)/\(¬24<t.qJ.size->t.qZ.length<=2^63-1->((↑t.qZ.length:Int)<b.1->Q (3,()) () G)/\(¬(↑t.qZ.length:Int)<b.1->t.qZ.length<=2^63-1->(b.2.1<(↑t.qZ.length:Int)->Q (3,()) () G)/\(¬b.2.1<(↑t.qZ.length:Int)->Q (0,()) () G)))))))/\(¬t.Op=3->(t.N < -255->Q (2,()) () G)/\(¬t.N < -255->((255:Int)<t.N->Q (2,()) () G)/\(¬(255:Int)<t.N->(t.Op=4->(t.qJ={data:={toList:=[]:Array UInt8}:ByteArray}->Q (12,()) () G)/\(¬t.qJ={data:={toList:=[]:Array UInt8}:ByteArray}->t.qJ.size<=2^63-1->(24<t.qJ.size->Q (12,()) () G)/\(¬24<t.qJ.size->(¬t.Op=4->(¬t.qJ={data:={toList:=[]:Array UInt8}:ByteArray}->Q (12,()) () G)/\(¬¬t.qJ={data:={toList:=[]:Array UInt8}:ByteArray}->t.qZ.length<=2^63-1->((↑t.qZ.length:Int)<b.1->Q (3,()) () G)/\(¬(↑t.qZ.length:Int)<b.1->t.qZ.length<=2^63-1->(b.2.1<(↑t.qZ.length:Int)->Q (3,()) () G)/\(¬b.2.1<(↑t.qZ.length:Int)->Q (0,()) () G))))/\(¬¬t.Op=4->t.qZ.length<=2^63-1->((↑t.qZ.length:Int)<b.1->Q (3,()) () G)/\(¬(↑t.qZ.length:Int)<b.1->t.qZ.length<=2^63-1->(b.2.1<(↑t.qZ.length:Int)->Q (3,()) () G)/\(¬b.2.1<(↑t.qZ.length:Int)->Q (0,()) () G))))))/\(¬t.Op=4->(¬t.Op=4->(¬t.qJ={data:={toList:=[]:Array UInt8}:ByteArray}->Q (12,()) () G)/\(¬¬t.qJ={data:={toList:=[]:Array UInt8}:ByteArray}->t.qZ.length<=2^63-1->((↑t.qZ.length:Int)<b.1->Q (3,()) () G)/\(¬(↑t.qZ.length:Int)<b.1->t.qZ.length<=2^63-1->(b.2.1<(↑t.qZ.length:Int)->Q (3,()) () G)/\(¬b.2.1<(↑t.qZ.length:Int)->Q (0,()) () G))))/\(¬¬t.Op=4->t.qZ.length<=2^63-1->((↑t.qZ.length:Int)<b.1->Q (3,()) () G)/\(¬(↑t.qZ.length:Int)<b.1->t.qZ.length<=2^63-1->(b.2.1<(↑t.qZ.length:Int)->Q (3,()) () G)/\(¬b.2.1<(↑t.qZ.length:Int)->Q (0,()) () G))))))))/\(¬t.Op=1->(t.Op=2->(t.Op=3->(t.N<0->Q (2,()) () G)/\(¬t.N<0->((1:Int)<t.N->Q (2,()) () G)/\(¬(1:Int)<t.N->(t.qJ={data:={toList:=[]:Array UInt8}:ByteArray}->Q (12,()) () G)/\(¬t.qJ={data:={toList:=[]:Array UInt8}:ByteArray}->t.qJ.size<=2^63-1->(24<t.qJ.size->Q (12,()) () G)/\(¬24<t.qJ.size->t.qZ.length<=2^63-1->((↑t.qZ.length:Int)<b.1->Q (3,()) () G)/\(¬(↑t.qZ.length:Int)<b.1->t.qZ.length<=2^63-1->(b.2.1<(↑t.qZ.length:Int)->Q (3,()) () G)/\(¬b.2.1<(↑t.qZ.length:Int)->Q (0,()) () G)))))))/\(¬t.Op=3->(t.N<0->Q (2,()) () G)/\(¬t.N<0->((1:Int)<t.N->Q (2,()) () G)/\(¬(1:Int)<t.N->(t.Op=4->(t.qJ={data:={toList:=[]:Array UInt8}:ByteArray}->Q (12,()) () G)/\(¬t.qJ={data:={toList:=[]:Array UInt8}:ByteArray}->t.qJ.size<=2^63-1->(24<t.qJ.size->Q (12,()) () G)/\(¬24<t.qJ.size->(¬t.Op=4->(¬t.qJ={data:={toList:=[]:Array UInt8}:ByteArray}->Q (12,()) () G)/\(¬¬t.qJ={data:={toList:=[]:Array UInt8}:ByteArray}->t.qZ.length<=2^63-1->((↑t.qZ.length:Int)<b.1->Q (3,()) () G)/\(¬(↑t.qZ.length:Int)<b.1->t.qZ.length<=2^63-1->(b.2.1<(↑t.qZ.length:Int)->Q (3,()) () G)/\(¬b.2.1<(↑t.qZ.length:Int)->Q (0,()) () G))))/\(¬¬t.Op=4->t.qZ.length<=2^63-1->((↑t.qZ.length:Int)<b.1->Q (3,()) () G)/\(¬(↑t.qZ.length:Int)<b.1->t.qZ.length<=2^63-1->(b.2.1<(↑t.qZ.length:Int)->Q (3,()) () G)/\(¬b.2.1<(↑t.qZ.length:Int)->Q (0,()) () G))))))/\(¬t.Op=4->(¬t.Op=4->(¬t.qJ={data:={toList:=[]:Array UInt8}:ByteArray}->Q (12,()) () G)/\(¬¬t.qJ={data:={toList:=[]:Array UInt8}:ByteArray}->t.qZ.length<=2^63-1->((↑t.qZ.length:Int)<b.1->Q (3,()) () G)/\(¬(↑t.qZ.length:Int)<b.1->t.qZ.length<=2^63-1->(b.2.1<(↑t.qZ.length:Int)->Q (3,()) () G)/\(¬b.2.1<(↑t.qZ.length:Int)->Q (0,()) () G))))/\(¬¬t.Op=4->t.qZ.length<=2^63-1->((↑t.qZ.length:Int)<b.1->Q (3,()) () G)/\(¬(↑t.qZ.length:Int)<b.1->t.qZ.length<=2^63-1->(b.2.1<(↑t.qZ.length:Int)->Q (3,()) () G)/\(¬b.2.1<(↑t.qZ.length:Int)->Q (0,()) () G))))))))/\(¬t.Op=2->(t.Op=3->(t.N<0->Q (2,()) () G)/\(¬t.N<0->((0:Int)<t.N->Q (2,()) () G)/\(¬(0:Int)<t.N->(t.qJ={data:={toList:=[]:Array UInt8}:ByteArray}->Q (12,()) () G)/\(¬t.qJ={data:={toList:=[]:Array UInt8}:ByteArray}->t.qJ.size<=2^63-1->(24<t.qJ.size->Q (12,()) () G)/\(¬24<t.qJ.size->t.qZ.length<=2^63-1->((↑t.qZ.length:Int)<b.1->Q (3,()) () G)/\(¬(↑t.qZ.length:Int)<b.1->t.qZ.length<=2^63-1->(b.2.1<(↑t.qZ.length:Int)->Q (3,()) () G)/\(¬b.2.1<(↑t.qZ.length:Int)->Q (0,()) () G)))))))/\(¬t.Op=3->(t.N<0->Q (2,()) () G)/\(¬t.N<0->((0:Int)<t.N->Q (2,()) () G)/\(¬(0:Int)<t.N->(t.Op=4->(t.qJ={data:={toList:=[]:Array UInt8}:ByteArray}->Q (12,()) () G)/\(¬t.qJ={data:={toList:=[]:Array UInt8}:ByteArray}->t.qJ.size<=2^63-1->(24<t.qJ.size->Q (12,()) () G)/\(¬24<t.qJ.size->(¬t.Op=4->(¬t.qJ={data:={toList:=[]:Array UInt8}:ByteArray}->Q (12,()) () G)/\(¬¬t.qJ={data:={toList:=[]:Array UInt8}:ByteArray}->t.qZ.length<=2^63-1->((↑t.qZ.length:Int)<b.1->Q (3,()) () G)/\(¬(↑t.qZ.length:Int)<b.1->t.qZ.length<=2^63-1->(b.2.1<(↑t.qZ.length:Int)->Q (3,()) () G)/\(¬b.2.1<(↑t.qZ.length:Int)->Q (0,()) () G))))/\(¬¬t.Op=4->t.qZ.length<=2^63-1->((↑t.qZ.length:Int)<b.1->Q (3,()) () G)/\(¬(↑t.qZ.length:Int)<b.1->t.qZ.length<=2^63-1->(b.2.1<(↑t.qZ.length:Int)->Q (3,()) () G)/\(¬b.2.1<(↑t.qZ.length:Int)->Q (0,()) () G))))))/\(¬t.Op=4->(¬t.Op=4->(¬t.qJ={data:={toList:=[]:Array UInt8}:ByteArray}->Q (12,()) () G)/\(¬¬t.qJ={data:={toList:=[]:Array UInt8}:ByteArray}->t.qZ.length<=2^63-1->((↑t.qZ.length:Int)<b.1->Q (3,()) () G)/\(¬(↑t.qZ.length:Int)<b.1->t.qZ.length<=2^63-1->(b.2.1<(↑t.qZ.length:Int)->Q (3,()) () G)/\(¬b.2.1<(↑t.qZ.length:Int)->Q (0,()) () G))))/\(¬¬t.Op=4->t.qZ.length<=2^63-1->((↑t.qZ.length:Int)<b.1->Q (3,()) () G)/\(¬(↑t.qZ.length:Int)<b.1->t.qZ.length<=2^63-1->(b.2.1<(↑t.qZ.length:Int)->Q (3,()) () G)/\(¬b.2.1<(↑t.qZ.length:Int)->Q (0,()) () G))))))))))) X
theorem LI t H Q X(h_:FA t H Q X):qK JK Hw (t,()) H Q X:=wF Tryz.f166 {im:=[1]} h_
def J9(vars:List Ar)(H:HY)(Q:List (ByteArray×Int)×UT->UU)(_:PX):=vars.length<=2^63-1->∃(V:Nat->List (ByteArray×Int)×Nat×UT->Prop),(∃(n:Nat),H=H/\V n ([],0,()))/\∀n x,V n x->(x.2.1<vars.length->x.2.1<=2^63-1->∃(h:x.2.1<vars.length),(¬(Ad x.1 vars[x.2.1].qJ).isSome->x.2.1+1<=2^63-1/\∃m,m<n/\H=H/\V m (BR x.1 vars[x.2.1].qJ (↑x.2.1:Int),x.2.1+1,()))/\(¬¬(Ad x.1 vars[x.2.1].qJ).isSome->x.2.1+1<=2^63-1/\∃m,m<n/\H=H/\V m (x.1,x.2.1+1,())))/\(¬x.2.1<vars.length->Q (x.1,()) () H)
def KB(lo hi:Int)(H:HY)(Q:Af×Int×UT->UU)(_:PX):=(lo < -1048576->Q ({Bool:=false,Lo:=0,Hi:=0:Af},2,()) () H)/\(¬lo < -1048576->((1048576:Int)<hi->Q ({Bool:=false,Lo:=0,Hi:=0:Af},2,()) () H)/\(¬(1048576:Int)<hi->(hi<lo->Q ({Bool:=false,Lo:=0,Hi:=0:Af},2,()) () H)/\(¬hi<lo->IK hi->IK lo->IK (hi-lo)/\((4096:Int)<hi-lo->Q ({Bool:=false,Lo:=0,Hi:=0:Af},2,()) () H)/\(¬(4096:Int)<hi-lo->Q ({Bool:=false,Lo:=lo,Hi:=hi:Af},0,()) () H))))
theorem Yy lo hi H Q X(h_:KB lo hi H Q X):qK Bz Br (lo,hi,()) H Q X:=wF Tryz.f220 {} h_
def GD(op:Int)(a b:Af)(H:HY)(Q:Af×Int×UT->UU)(X:PX):=(op=15->IK b.Hi->IK (-b.Hi)/\(IK b.Lo->IK (-b.Lo)/\((14:Int)=14->IK a.Lo->IK (-b.Hi)->IK (a.Lo + -b.Hi)/\(IK a.Hi->IK (-b.Lo)->IK (a.Hi + -b.Lo)/\qK Bz Br (a.Lo + -b.Hi,a.Hi + -b.Lo,()) H (λ(b:Af×Int×UT)_ G=>Q (b.1,b.2.1,()) () G) X))/\(¬(14:Int)=14->IK a.Lo->IK (-b.Hi)->IK (a.Lo * -b.Hi)/\(IK a.Lo->IK (-b.Lo)->IK (a.Lo * -b.Lo)/\(IK a.Hi->IK (-b.Hi)->IK (a.Hi * -b.Hi)/\(IK a.Hi->IK (-b.Lo)->IK (a.Hi * -b.Lo)/\qK Bz Br (GZ false (a.Lo * -b.Hi) [(.i64,a.Lo * -b.Lo),(.i64,a.Hi * -b.Hi),(.i64,a.Hi * -b.Lo)],GZ true (a.Lo * -b.Hi) [(.i64,a.Lo * -b.Lo),(.i64,a.Hi * -b.Hi),(.i64,a.Hi * -b.Lo)],()) H (λ(b:Af×Int×UT)_ G=>Q (b.1,b.2.1,()) () G) X))))))/\(¬op=15->(op=14->IK a.Lo->IK b.Lo->IK (a.Lo+b.Lo)/\(IK a.Hi->IK b.Hi->IK (a.Hi+b.Hi)/\qK Bz Br (a.Lo+b.Lo,a.Hi+b.Hi,()) H (λ(b:Af×Int×UT)_ G=>Q (b.1,b.2.1,()) () G) X))/\(¬op=14->IK a.Lo->IK b.Lo->IK (a.Lo*b.Lo)/\(IK a.Lo->IK b.Hi->IK (a.Lo*b.Hi)/\(IK a.Hi->IK b.Lo->IK (a.Hi*b.Lo)/\(IK a.Hi->IK b.Hi->IK (a.Hi*b.Hi)/\qK Bz Br (GZ false (a.Lo*b.Lo) [(.i64,a.Lo*b.Hi),(.i64,a.Hi*b.Lo),(.i64,a.Hi*b.Hi)],GZ true (a.Lo*b.Lo) [(.i64,a.Lo*b.Hi),(.i64,a.Hi*b.Lo),(.i64,a.Hi*b.Hi)],()) H (λ(b:Af×Int×UT)_ G=>Q (b.1,b.2.1,()) () G) X)))))
theorem SL op a b H Q X(h_:GD op a b H Q X):qK GQ EP (op,a,b,()) H Q X:=wF Tryz.f222 {im:=[4]} h_
def Ev(vars:List Ar)(at_:List (ByteArray×Int))(t:Ae)(EV:Bool)(l:List Af)(H:HY)(Q:Af×Int×UT->List (ByteArray×Int)×UT->HP)(X:PX):=(t.Op=1->qK Bz Br (t.N,t.N,()) H (λ(b:Af×Int×UT)_ G=>Q (b.1,b.2.1,()) (at_,()) G) X)/\(¬t.Op=1->(t.Op=2->Q ({Bool:=true,Lo:=0,Hi:=0:Af},0,()) (at_,()) H)/\(¬t.Op=2->(t.Op=3->(¬(Ad at_ t.qJ).isSome->Q ({Bool:=false,Lo:=0,Hi:=0:Af},12,()) (at_,()) H)/\(¬¬(Ad at_ t.qJ).isSome->(t.Op=4->(¬EV->Q ({Bool:=false,Lo:=0,Hi:=0:Af},24,()) (at_,()) H)/\(¬¬EV->IK ((Ad at_ t.qJ).getD 0)->(IK ((Ad at_ t.qJ).getD 0)->(0:Int)<=(Ad at_ t.qJ).getD 0)/\∃(h:((Ad at_ t.qJ).getD 0).toNat<vars.length),(vars[((Ad at_ t.qJ).getD 0).toNat].Bool->Q ({Bool:=true,Lo:=0,Hi:=0:Af},0,()) (at_,()) H)/\(¬vars[((Ad at_ t.qJ).getD 0).toNat].Bool->IK ((Ad at_ t.qJ).getD 0)->(IK ((Ad at_ t.qJ).getD 0)->(0:Int)<=(Ad at_ t.qJ).getD 0)/\∃(h:((Ad at_ t.qJ).getD 0).toNat<vars.length),IK ((Ad at_ t.qJ).getD 0)->(IK ((Ad at_ t.qJ).getD 0)->(0:Int)<=(Ad at_ t.qJ).getD 0)/\∃(h1:((Ad at_ t.qJ).getD 0).toNat<vars.length),qK Bz Br (vars[((Ad at_ t.qJ).getD 0).toNat].Lo,vars[((Ad at_ t.qJ).getD 0).toNat].Hi,()) H (λ(b:Af×Int×UT)_ G=>Q (b.1,b.2.1,()) (at_,()) G) X)))/\(¬t.Op=4->IK ((Ad at_ t.qJ).getD 0)->(IK ((Ad at_ t.qJ).getD 0)->(0:Int)<=(Ad at_ t.qJ).getD 0)/\∃(h:((Ad at_ t.qJ).getD 0).toNat<vars.length),(vars[((Ad at_ t.qJ).getD 0).toNat].Bool->Q ({Bool:=true,Lo:=0,Hi:=0:Af},0,()) (at_,()) H)/\(¬vars[((Ad at_ t.qJ).getD 0).toNat].Bool->IK ((Ad at_ t.qJ).getD 0)->(IK ((Ad at_ t.qJ).getD 0)->(0:Int)<=(Ad at_ t.qJ).getD 0)/\∃(h:((Ad at_ t.qJ).getD 0).toNat<vars.length),IK ((Ad at_ t.qJ).getD 0)->(IK ((Ad at_ t.qJ).getD 0)->(0:Int)<=(Ad at_ t.qJ).getD 0)/\∃(h1:((Ad at_ t.qJ).getD 0).toNat<vars.length),qK Bz Br (vars[((Ad at_ t.qJ).getD 0).toNat].Lo,vars[((Ad at_ t.qJ).getD 0).toNat].Hi,()) H (λ(b:Af×Int×UT)_ G=>Q (b.1,b.2.1,()) (at_,()) G) X))))/\(¬t.Op=3->(t.Op=4->(¬(Ad at_ t.qJ).isSome->Q ({Bool:=false,Lo:=0,Hi:=0:Af},12,()) (at_,()) H)/\(¬¬(Ad at_ t.qJ).isSome->(t.Op=4->(¬EV->Q ({Bool:=false,Lo:=0,Hi:=0:Af},24,()) (at_,()) H)/\(¬¬EV->IK ((Ad at_ t.qJ).getD 0)->(IK ((Ad at_ t.qJ).getD 0)->(0:Int)<=(Ad at_ t.qJ).getD 0)/\∃(h:((Ad at_ t.qJ).getD 0).toNat<vars.length),(vars[((Ad at_ t.qJ).getD 0).toNat].Bool->Q ({Bool:=true,Lo:=0,Hi:=0:Af},0,()) (at_,()) H)/\(¬vars[((Ad at_ t.qJ).getD 0).toNat].Bool->IK ((Ad at_ t.qJ).getD 0)->(IK ((Ad at_ t.qJ).getD 0)->(0:Int)<=(Ad at_ t.qJ).getD 0)/\∃(h:((Ad at_ t.qJ).getD 0).toNat<vars.length),IK ((Ad at_ t.qJ).getD 0)->(IK ((Ad at_ t.qJ).getD 0)->(0:Int)<=(Ad at_ t.qJ).getD 0)/\∃(h1:((Ad at_ t.qJ).getD 0).toNat<vars.length),qK Bz Br (vars[((Ad at_ t.qJ).getD 0).toNat].Lo,vars[((Ad at_ t.qJ).getD 0).toNat].Hi,()) H (λ(b:Af×Int×UT)_ G=>Q (b.1,b.2.1,()) (at_,()) G) X)))/\(¬t.Op=4->IK ((Ad at_ t.qJ).getD 0)->(IK ((Ad at_ t.qJ).getD 0)->(0:Int)<=(Ad at_ t.qJ).getD 0)/\∃(h:((Ad at_ t.qJ).getD 0).toNat<vars.length),(vars[((Ad at_ t.qJ).getD 0).toNat].Bool->Q ({Bool:=true,Lo:=0,Hi:=0:Af},0,()) (at_,()) H)/\(¬vars[((Ad at_ t.qJ).getD 0).toNat].Bool->IK ((Ad at_ t.qJ).getD 0)->(IK ((Ad at_ t.qJ).getD 0)->(0:Int)<=(Ad at_ t.qJ).getD 0)/\∃(h:((Ad at_ t.qJ).getD 0).toNat<vars.length),IK ((Ad at_ t.qJ).getD 0)->(IK ((Ad at_ t.qJ).getD 0)->(0:Int)<=(Ad at_ t.qJ).getD 0)/\∃(h1:((Ad at_ t.qJ).getD 0).toNat<vars.length),qK Bz Br (vars[((Ad at_ t.qJ).getD 0).toNat].Lo,vars[((Ad at_ t.qJ).getD 0).toNat].Hi,()) H (λ(b:Af×Int×UT)_ G=>Q (b.1,b.2.1,()) (at_,()) G) X))))/\(¬t.Op=4->(t.Op=5->qK Eb D4 (l,()) H (λ(b:Af×Int×UT)_ G=>Q (b.1,b.2.1,()) (at_,()) G) X)/\(¬t.Op=5->(t.Op=6->qK Eb D4 (l,()) H (λ(b:Af×Int×UT)_ G=>Q (b.1,b.2.1,()) (at_,()) G) X)/\(¬t.Op=6->(t.Op=7->qK Eb D4 (l,()) H (λ(b:Af×Int×UT)_ G=>Q (b.1,b.2.1,()) (at_,()) G) X)/\(¬t.Op=7->(t.Op=8->qK Eb D4 (l,()) H (λ(b:Af×Int×UT)_ G=>Q (b.1,b.2.1,()) (at_,()) G) X)/\(¬t.Op=8->(t.Op=9->qK Eb D4 (l,()) H (λ(b:Af×Int×UT)_ G=>Q (b.1,b.2.1,()) (at_,()) G) X)/\(¬t.Op=9->(t.Op=18->(True->(0:Int)<=0)/\∃(h:a5 (0:Int)<l.length),(¬l[a5 (0:Int)].Bool->Q ({Bool:=false,Lo:=0,Hi:=0:Af},13,()) (at_,()) H)/\(¬¬l[a5 (0:Int)].Bool->(True->(0:Int)<=1)/\∃(h:a5 (1:Int)<l.length),(True->(0:Int)<=2)/\∃(h1:a5 (2:Int)<l.length),(not (decide (l[a5 (1:Int)].Bool=true)==decide (l[a5 (2:Int)].Bool=true))->Q ({Bool:=false,Lo:=0,Hi:=0:Af},13,()) (at_,()) H)/\(¬not (decide (l[a5 (1:Int)].Bool=true)==decide (l[a5 (2:Int)].Bool=true))->(True->(0:Int)<=1)/\∃(h:a5 (1:Int)<l.length),(l[a5 (1:Int)].Bool->(True->(0:Int)<=1)/\∃(h:a5 (1:Int)<l.length),Q (l[a5 (1:Int)],0,()) (at_,()) H)/\(¬l[a5 (1:Int)].Bool->(True->(0:Int)<=1)/\∃(h:a5 (1:Int)<l.length),(True->(0:Int)<=2)/\∃(h2:a5 (2:Int)<l.length),(True->(0:Int)<=1)/\∃(h3:a5 (1:Int)<l.length),(True->(0:Int)<=2)/\∃(h4:a5 (2:Int)<l.length),qK Bz Br (GZ false l[a5 (1:Int)].Lo [(.i64,l[a5 2].Lo)],GZ true l[a5 (1:Int)].Hi [(.i64,l[a5 2].Hi)],()) H (λ(b:Af×Int×UT)_ G=>Q (b.1,b.2.1,()) (at_,()) G) X))))/\(¬t.Op=18->(t.Op=10->(True->(0:Int)<=0)/\∃(h:a5 (0:Int)<l.length),(True->(0:Int)<=1)/\∃(h1:a5 (1:Int)<l.length),(not (decide (l[a5 (0:Int)].Bool=true)==decide (l[a5 (1:Int)].Bool=true))->Q ({Bool:=false,Lo:=0,Hi:=0:Af},13,()) (at_,()) H)/\(¬not (decide (l[a5 (0:Int)].Bool=true)==decide (l[a5 (1:Int)].Bool=true))->Q ({Bool:=true,Lo:=0,Hi:=0:Af},0,()) (at_,()) H))/\(¬t.Op=10->(t.Op=11->(True->(0:Int)<=0)/\∃(h:a5 (0:Int)<l.length),(True->(0:Int)<=1)/\∃(h1:a5 (1:Int)<l.length),(not (decide (l[a5 (0:Int)].Bool=true)==decide (l[a5 (1:Int)].Bool=true))->Q ({Bool:=false,Lo:=0,Hi:=0:Af},13,()) (at_,()) H)/\(¬not (decide (l[a5 (0:Int)].Bool=true)==decide (l[a5 (1:Int)].Bool=true))->Q ({Bool:=true,Lo:=0,Hi:=0:Af},0,()) (at_,()) H))/\(¬t.Op=11->(True->(0:Int)<=0)/\∃(h:a5 (0:Int)<l.length),(l[a5 (0:Int)].Bool->Q ({Bool:=false,Lo:=0,Hi:=0:Af},13,()) (at_,()) H)/\(¬l[a5 (0:Int)].Bool->(True->(0:Int)<=1)/\∃(h:a5 (1:Int)<l.length),(l[a5 (1:Int)].Bool->Q ({Bool:=false,Lo:=0,Hi:=0:Af},13,()) (at_,()) H)/\(¬l[a5 (1:Int)].Bool->(t.Op=12->Q ({Bool:=true,Lo:=0,Hi:=0:Af},0,()) (at_,()) H)/\(¬t.Op=12->(t.Op=13->Q ({Bool:=true,Lo:=0,Hi:=0:Af},0,()) (at_,()) H)/\(¬t.Op=13->(t.Op=17->(True->(0:Int)<=1)/\∃(h:a5 (1:Int)<t.qZ.length),(¬t.qZ[a5 (1:Int)].Op=1->Q ({Bool:=false,Lo:=0,Hi:=0:Af},2,()) (at_,()) H)/\(¬¬t.qZ[a5 (1:Int)].Op=1->(t.qZ[a5 (1:Int)].N<1->Q ({Bool:=false,Lo:=0,Hi:=0:Af},2,()) (at_,()) H)/\(¬t.qZ[a5 1].N<1->(True->(0:Int)<=1)/\∃(h:a5 (1:Int)<t.qZ.length),IK t.qZ[a5 1].N->IK (t.qZ[a5 (1:Int)].N-1)/\qK Bz Br (0,t.qZ[a5 (1:Int)].N-1,()) H (λ(b:Af×Int×UT)_ G=>Q (b.1,b.2.1,()) (at_,()) G) X)))/\(¬t.Op=17->(True->(0:Int)<=0)/\∃(h:a5 (0:Int)<l.length),(True->(0:Int)<=1)/\∃(h1:a5 (1:Int)<l.length),qK GQ EP (t.Op,l[a5 (0:Int)],l[a5 (1:Int)],()) H (λ(b:Af×Int×UT)_ G=>Q (b.1,b.2.1,()) (at_,()) G) X)))))))))))))))))
def KC(vars:List Ar)(t:Ae)(EV:Bool)(H:HY)(Q:Af×Int×UT->UU)(X:PX):=qK Md JD (t,()) H (λ(b:Int×UT)_ G=>(¬b.1=0->Q ({Bool:=false,Lo:=0,Hi:=0:Af},b.1,()) () G)/\(¬¬b.1=0->qK Mc JC (vars,()) G (λ(b:List (ByteArray×Int)×UT)_ G=>qK DP Dy (vars,b.1,t,EV,()) G (λ(b:Af×Int×UT)(_:List (ByteArray×Int)×UT)(G:HY)=>Q (b.1,b.2.1,()) () G) X) X)) X
def J8(vars:List Ar)(at_:List (ByteArray×Int))(t:Ae)(EV:Bool)(H:HY)(Q:Af×Int×UT->List (ByteArray×Int)×UT->HP)(X:PX):=t.qZ.length<=2^63-1->∃(V:Nat->List (ByteArray×Int)×(Bool×Int×Int×UT)×List Af×Nat×UT->Prop),(∃(n:Nat),H=H/\V n (at_,(false,0,0,()),[],0,()))/\∀n x,V n x->(x.2.2.2.1<t.qZ.length->x.2.2.2.1<=2^63-1->∃(h:x.2.2.2.1<t.qZ.length),qK DP Dy (vars,x.1,{Op:=t.qZ[x.2.2.2.1].Op,N:=t.qZ[x.2.2.2.1].N,qJ:=t.qZ[x.2.2.2.1].qJ,qZ:=t.qZ[x.2.2.2.1].qZ:Ae},EV,()) H (λ(b:Af×Int×UT)(io:List (ByteArray×Int)×UT)(G:HY)=>(¬b.2.1=0->Q ({Bool:=false,Lo:=0,Hi:=0:Af},b.2.1,()) (io.1,()) G)/\(¬¬b.2.1=0->(x.2.2.1.length+[b.1].length)*24<=2^47/\x.2.2.2.1+1<=2^63-1/\∃m,m<n/\G=H/\V m (io.1,(x.2.1.1,x.2.1.2.1,x.2.1.2.2.1,()),x.2.2.1++[b.1],x.2.2.2.1+1,()))) X)/\(¬x.2.2.2.1<t.qZ.length->qK GR Fj (vars,x.1,t,EV,x.2.2.1,()) H (λ(b:Af×Int×UT)(io:List (ByteArray×Int)×UT)(G:HY)=>Q (b.1,b.2.1,()) (io.1,()) G) X)
theorem LJ vars at_ t EV H Q X(h_:J8 vars at_ t EV H Q X):qK DP Dy (vars,at_,t,EV,()) H Q X:=wF Tryz.f91 {lp:=[(3,⟨[(1,.map .str I6),(8,.blk [.dat .bool,.dat I6,.dat I6]),(10,.one (.own (.u 5))),(18,.nat)],[0,1,3,6,16,17],false⟩)],im:=[6]} h_
end
section
variable {M:Mn}
theorem Ai8(h:MI M)(u:∀i d,M.T i=some d->0<F1 M.S.cn i)(r:∀p∈M.hs,p.2/2=0):∀i,M.T i=none:=by
 have c:∀{m:List (Int×Int)}{i:Int},(∀p∈m,p.2/2=0)->i≠0->Lh m i=0:=by
  intro m i g D;induction m with
  |nil=>rfl
  |cons p m l=>
   have z:=g p bk;have:B.dl p.2 i=0:=GT (by omega);grind[Lh]
 have o:∀(k:Nat)(i:Int)(d:B.Nd),M.T i=some d->M.lv d.v<k->False:=by
  intro k;induction k with
  |zero=>
   intro i d b n;have:=(h.si.BS.od.Mp d.v (h.si.BS.var b).2.1 (h.si.BS.var b).2.2).1;grind
  |succ k l=>
   intro i d b n;have C:=u i d b;have A:=h.si.sc.cn.eq b;have x:=(h.si.BS.var b).1;have v:=h.rf i (by omega);rw[c r (by omega)]at v;obtain⟨p,y,s,a⟩:=B.Adj (show 0<B.sm M.S.po.at_.length (B.pt (Ax M.S.po) (F1 M.S.cn) i) by omega);unfold B.pt at a;split at a
   .rename_i j f;split at a
    .have g:j.lo/2=i∨j.hi/2=i:=by grind[B.mu,B.dl]
     have w:M.lv j.v<M.lv d.v:=by
      rcases g with e|e
      .have:=(h.si.BS.lo f).2;grind[B.el]
      .have:=(h.si.BS.hi f).2;grind[B.el]
     grind
    .omega
   .omega
 intro i;cases e:M.T i with
 |none=>rfl
 |some d=>
  have:=(h.si.BS.od.Mp d.v (h.si.BS.var e).2.1 (h.si.BS.var e).2.2).2;have:M.lv d.v<M.S.n:=this;exact(o (M.S.n.toNat+1) i d e (by omega)).elim
theorem Zg{b:Nat}{H:HY}{X:PX}{Q:List Int×Unit->UU}(c:Jr H b M)(a:MI M)(h:Q (M.S.lv.vars,()) () H):qK O0 KY (some b,()) H Q X:=by refine wF Tryz.f87 {} (?_:((some b)=none->Q ([],()) () H)/\(¬(some b)=none->∃(a:Nat),(some b)=some a/\∃(x:Bc),H a=some (Ob.st CP x)/\x=x/\qK EJ DE (x.store,()) H (λ(a:List Int×UT)_ G=>Q (a.1,()) () G) X));have d:=a.si.BS.od.n64;refine⟨λh=>qG h (by simp),λ_=>⟨b,rfl,M.ob,c.ob,rfl,?_⟩⟩;show qK EJ DE (some M.sb,()) H _ X;exact NS c.st (by rw[a.si.vl];grind[B9.n]) h
theorem Abd{b:Nat}{g:Int}{F:B.Fn}{l:List Bool}{H:HY}{X:PX}{Q:Bool×Int×Unit->UU}(K:Jr H b M)(q:MI M)(hg:M.Aq g=some F)(hl:l.length=M.S.n.toNat)(h:Q (F λv=>l.getD v.toNat false,0,()) () H):qK Qc LR (some b,g,l,()) H Q X:=by
 refine wF Tryz.f52 {lp:=[(6,⟨[(8,.one (.dat I6))],[0,2],true⟩)]} (?_:Qj (some b) g l H Q X);unfold Qj;obtain⟨e,T,Z⟩:=Mn.Es hg;have y:Ad M.ob.Bs g=some e:=T;have I:=@B9.Ko M.S;refine⟨λh=>qG h (by simp),λ_=>⟨b,rfl,M.ob,K.ob,λG=>qG (by rw[y];rfl) G,λ_=>⟨rfl,?_⟩⟩⟩;rw[y,an];generalize ha:(λv:Int=>l.getD v.toNat false)=a at h;have J:=(q.ok g e T).1;have h64:=q.si.BS.od.n64;have w:=q.si.BS.od.Mp;refine⟨λn z E=>E=H/\B.Ok (Ax M.S.po) z.1/\B.den (Ax M.S.po) z.1 a=F a/\n=(M.S.n-B.el M.S.n (Df M.S.lv) (Ax M.S.po) z.1).toNat,⟨_,rfl,J,by rw[Z],rfl⟩,?_⟩;rintro n ⟨f,_⟩ E ⟨rfl,C,x,s⟩;have S:B.Ok (Ax M.S.po) f:=C;have V:B.den (Ax M.S.po) f a=F a:=x;have G:n=(M.S.n-B.el M.S.n (Df M.S.lv) (Ax M.S.po) f).toNat:=s;have P:0<=f:=S.1;have m:=JG P;refine⟨λk=>?_,λk=>?_⟩
 .have k:¬decide (Av f=0)=true:=k;rw[m,decide_eq_true_iff]at k;refine⟨M.ob,K.ob,rfl,?_⟩;show qK DU Dp (some M.sb,f,()) E _ X;refine L4 K.st q.si.sc.po S (λh=>qG h k) λd _ i _=>?_;have L:=q.si.BS.var i;have j:=q.si.BS.lo i;have o:=q.si.BS.hi i;have u:B.el M.S.n (Df M.S.lv) (Ax M.S.po) f=(Df M.S.lv) d.v:=by unfold B.el;rw[GT k,show Ax M.S.po (f/2)=some d from i]
  have hr:=w d.v L.2.1 L.2.2;have r:∀{c:Int},B.Ok (Ax M.S.po) c->(Df M.S.lv) d.v<B.el M.S.n (Df M.S.lv) (Ax M.S.po) c->B.el M.S.n (Df M.S.lv) (Ax M.S.po) (B.fl c f)=B.el M.S.n (Df M.S.lv) (Ax M.S.po) c:=λ{c}D _=>by
   unfold B.el;have:B.fl c f/2=c/2:=by
    unfold B.fl B.flip;split
    .split<;>omega
    .rfl
   rw[this]
  have t:∀{c:Int},B.Ok (Ax M.S.po) c->(if a d.v=true then d.hi else d.lo)=c->B.den (Ax M.S.po) (B.fl c f) a=F a:=λ{c}D R=>by
   rw[<-V,B.J4 D];have Y:=q.si.BS.IZ I (e:=f) k i a;rw[Y,<-R];have:(if a d.v=true then B.den (Ax M.S.po) d.hi a else B.den (Ax M.S.po) d.lo a)=B.den (Ax M.S.po) (if a d.v=true then d.hi else d.lo) a:=by split<;>rfl
   rw[this,Bool.xor_comm]
  have N:d.v<(l.length:Int):=by omega
  have A:a d.v=l[d.v.toNat]'(by omega):=by rw[<-ha];show l.getD d.v.toNat false=_;rw[List.getD_eq_getElem?_getD,a6 (by omega)];rfl
  refine⟨λ_ _=>⟨λ_=>L.2.1,by omega,λp=>?_,λp=>?_⟩,λO=>qG N O⟩
  .have p:l[d.v.toNat]'(by omega)=true:=p;rw[<-A]at p;refine⟨_,?_,rfl,o.1.fl,t o.1 (UV p),rfl⟩;rw[G,u];have:=r o.1 o.2;show (M.S.n-B.el M.S.n (Df M.S.lv) (Ax M.S.po) (B.fl d.hi f)).toNat<_;have U:(Df M.S.lv) d.v<B.el M.S.n (Df M.S.lv) (Ax M.S.po) d.hi:=o.2;rw[this];omega
  .have p:¬l[d.v.toNat]'(by omega)=true:=p;rw[<-A]at p;refine⟨_,?_,rfl,j.1.fl,t j.1 (GT p),rfl⟩;grind
 .have k:¬¬decide (Av f=0)=true:=k;rw[m,ab,decide_eq_true_iff]at k;have:decide (f=0)=F a:=by rw[<-V,B.MA k];grind
  grind
end
section
def Q2(n:Nat):List Int:=(ar n).map λ(k:Nat)=>(k:Int)
variable {n:Nat}
theorem MW{x:Int}:x∈Q2 n↔0<=x/\x<n:=by unfold Q2;rw[bm];refine⟨λ⟨k,a,e⟩=>?_,λh=>⟨x.toNat,bv.2 (by omega),by omega⟩⟩;grind
theorem Xw:(Q2 n).Nodup:=List.Pairwise.map _ (λa b h e=>h (by omega)) (List.nodup_range (n:=n))
theorem MX:(Q2 n).length=n:=by grind[Q2]
theorem Og:∀{R l:List Int},R.Nodup->(∀x∈R,x∈l)->R.length=l.length->R.Perm l
 | [],l,_,_,a=>by have:l=[]:=b9.1 a.symm;rw[this]
 |r::R,l,h,c,a=>by
  obtain⟨f,d⟩:=List.nodup_cons.1 h;have g:=c r bk;have p:=List.perm_cons_erase g;have i:=p.length_eq;refine(List.Perm.cons r (Og d (λx b=>?_) ?_)).trans p.symm
  .exact(List.mem_erase_of_ne λe:x=r=>f (by rw[<-e];exact b)).2 (c x (List.mem_cons_of_mem _ b))
  .simp only[ai]at a i;omega
structure Yj(l:List Int)(n:Nat):Prop where
 ln:l.length=n
 nd:l.Nodup
 rg:∀x∈l,0<=x/\x<n
variable {H:HY} {X:PX}
theorem UQ{l:List Int}{Q:Bool×Unit->UU}(M:n<=1000)(h:∀t:Bool,(t=true->Yj l n)->Q (t,()) () H):qK FN Ei (l,(n:Int),()) H Q X:=by
 refine wF Tryz.f35 {lp:=[(8,⟨[(6,.nat),(7,.nat)],[0,1,5],false⟩),(4,⟨[(5,.nat)],[0,1],false⟩)]} (?_:Ji l (n:Int) H Q X);unfold Ji;have E:Q (false,()) () H:=h false λe=>qG e (by decide);refine λ_=>⟨λ_=>E,λA=>?_⟩
 have A:l.length=n:=by omega
 refine⟨λm z=>m=n-z.1/\z.1<=n/\∀v:Nat,v<z.1->l.count (v:Int)=1,⟨_,rfl,rfl,a7 _,λv D=>qG D (ac _)⟩,?_⟩;rintro m ⟨v,_⟩ ⟨g,j,o⟩;have G:m=n-v:=g;have D:v<=n:=j;have C:∀u:Nat,u<v->l.count (u:Int)=1:=o;refine⟨λa=>?_,λa=>?_⟩
 .have a:(v:Int)<(n:Int):=a;refine⟨λm z=>m=n-z.2.1/\z.2.1<=n/\z.1=(l.take z.2.1).count (v:Int),⟨_,rfl,rfl,a7 _,by simp⟩,?_⟩;rintro J ⟨k,i,_⟩ ⟨c,s,w⟩;have I:J=n-i:=c;have L:i<=n:=s;have r:k=(l.take i).count (v:Int):=w;have K:k<=i:=by grind[Nat.le_trans,List.count_le_length,au]
  refine⟨λb _=>?_,λb=>⟨λ_=>E,λd=>?_⟩⟩
  .have b:(i:Int)<(n:Int):=b;have q:i<l.length:=by omega
   have F:l.take (i+1)=l.take i++[l[i]]:=a8 q;refine⟨q,λf=>⟨by grind,by grind,n-(i+1),by omega,rfl,rfl,by grind,?_⟩,λf=>⟨by grind,n-(i+1),by omega,rfl,rfl,by grind,?_⟩⟩;all_goals grind
  .have b:¬(i:Int)<(n:Int):=b;have d:k=1:=ab.1 d;rw[af (by omega)]at r;refine⟨by omega,n-(v+1),by omega,rfl,rfl,by omega,λu B=>?_⟩;grind
 .have a:¬(v:Int)<(n:Int):=a;have:v=n:=by omega
  subst this;refine h true λ_=>?_;have p:(Q2 v).Perm l:=Og Xw (λx y=>?_) (by rw[MX,A])
  .exact⟨A,(p.nodup_iff).1 Xw,λx y=>MW.1 (p.mem_iff.2 y)⟩
  .have y:=MW.1 y;have:=C x.toNat (by omega);grind
def Ahv(n:Int)(l:List BA):Prop:=∀i(h:i<l.length),1<=l[i].Kind/\l[i].Kind<=3/\1<=l[i].Eg/\(l[i].Kind=2->0<=l[i].Level/\l[i].Level<=n-2)
theorem PS{n:Int}{l:List BA}{Q:Int×Unit->UU}(y:0<=n/\n<=1000)(h:∀e:Int,(e=0->Ahv n l)->Q (e,()) () H):qK G1 Ew (n,0,l,()) H Q X:=by
 refine wF Tryz.f36 {lp:=[(4,⟨[(7,.nat)],[0,2],false⟩)]} (?_:l.length<=2^63-1->IK 0->IK (256-0)/\(256-0<(↑l.length:Int)->Q (18,()) () H)/\(¬256-0<(↑l.length:Int)->∃(V:Nat->Nat×UT->Prop),(∃(a:Nat),H=H/\V a (0,()))/\∀a x,V a x->l.length<=2^63-1->(x.1<l.length->x.1<=2^63-1->∃(h:x.1<l.length),(l[x.1].Kind<1->Q (11,()) () H)/\(¬l[x.1].Kind<1->x.1<=2^63-1->∃(h:x.1<l.length),((3:Int)<l[x.1].Kind->Q (11,()) () H)/\(¬(3:Int)<l[x.1].Kind->x.1<=2^63-1->∃(h:x.1<l.length),(l[x.1].Eg<1->Q (2,()) () H)/\(¬l[x.1].Eg<1->x.1<=2^63-1->∃(h:x.1<l.length),(l[x.1].Kind=2->x.1<=2^63-1->∃(h:x.1<l.length),(l[x.1].Level<0->Q (2,()) () H)/\(¬l[x.1].Level<0->x.1<=2^63-1->∃(h:x.1<l.length),IK n->IK (n-2)/\(n-2<l[x.1].Level->Q (2,()) () H)/\(¬n-2<l[x.1].Level->x.1+1<=2^63-1/\∃m,m<a/\H=H/\V m (x.1+1,()))))/\(¬l[x.1].Kind=2->x.1+1<=2^63-1/\∃m,m<a/\H=H/\V m (x.1+1,()))))))/\(¬x.1<l.length->Q (0,()) () H)));have c:∀{e:Int},e≠0->Q (e,()) () H:=λx=>h _ λe=>qG e x;refine λ_ _=>⟨A7.2 (by omega),λ_=>c (by decide),λ_=>⟨λm z=>m=l.length-z.1/\z.1<=l.length/\∀i(h:i<l.length),i<z.1->1<=l[i].Kind/\l[i].Kind<=3/\1<=l[i].Eg/\(l[i].Kind=2->0<=l[i].Level/\l[i].Level<=n-2),⟨_,rfl,rfl,a7 _,λi _ d=>qG d (ac _)⟩,?_⟩⟩
 rintro m ⟨k,_⟩ ⟨j,f,g⟩;have A:m=l.length-k:=j;have B:k<=l.length:=f;have t:∀i(h:i<l.length),i<k->1<=l[i].Kind/\l[i].Kind<=3/\1<=l[i].Eg/\(l[i].Kind=2->0<=l[i].Level/\l[i].Level<=n-2):=g;refine λ_=>⟨λa _=>?_,λa=>?_⟩
 .have a:k<l.length:=a;have s:1<=l[k].Kind/\l[k].Kind<=3/\1<=l[k].Eg/\(l[k].Kind=2->0<=l[k].Level/\l[k].Level<=n-2)->k+1<=9223372036854775807/\∃q,q<m/\H=H/\q=l.length-(k+1)/\k+1<=l.length/\∀i(h:i<l.length),i<k+1->1<=l[i].Kind/\l[i].Kind<=3/\1<=l[i].Eg/\(l[i].Kind=2->0<=l[i].Level/\l[i].Level<=n-2):=λb=>⟨by omega,l.length-(k+1),by omega,rfl,rfl,by omega,λi d w=>by grind⟩
  refine⟨a,λ_=>c (by decide),λb _=>⟨a,λ_=>c (by decide),λp _=>⟨a,λ_=>c (by decide),λo _=>⟨a,λr _=>⟨a,λ_=>c (by decide),λv _=>⟨a,λ_=>⟨A7.2 (by omega),λ_=>c (by decide),λu=>s ?_⟩⟩⟩,λr=>s ?_⟩⟩⟩⟩;all_goals grind
 .have a:¬k<l.length:=a;exact h 0 λ_ i d=>t i d (by omega)
theorem Abb{b:Nat}{M:Mn}{l:List BA}{Q:Int×Unit->UU}(o:Jr H b M)(s:MI M)(B:l.length<=6)(D:M.ws.length<=100)(u:Ahv M.S.n l)(h:∀M':Mn,M'={M with ws:=M.ws++l,ca:=M'.ca}->Q (0,()) () (Ab H b (.st CP M'.ob))):qK Qa LP (some b,l,()) H Q X:=by
 refine wF Tryz.f39 {lp:=[(6,⟨[(20,.nat)],[0,1,18,19],true⟩)]} (?_:Qh (some b) l H Q X);unfold Qh;have A:=@B9.Ko M.S;have v:=s.si.BS.od.n64;refine⟨λh=>qG h (by simp),λ_ _=>⟨b,rfl,M.ob,o.ob,λ_ _=>⟨A7.2 (by omega),λg=>?_,λ_ _=>⟨rfl,λm z c=>c=H/\m=l.length-z.1/\z.1<=l.length,⟨_,rfl,rfl,a7 _⟩,?_⟩⟩⟩⟩
 .have g:256-(M.ws.length:Int)<(l.length:Int):=g;omega
 rintro m ⟨k,_⟩ c ⟨rfl,f,i⟩;have F:m=l.length-k:=f;have x:k<=l.length:=i;refine⟨λa _=>?_,λa=>⟨M.ob,o.ob,λ_=>⟨λw=>⟨?_,h {M with ws:=M.ws++l,ca:=0} rfl⟩,λw=>⟨?_,h {M with ws:=M.ws++l,ca:=M.ca} rfl⟩⟩⟩⟩
 .have a:k<l.length:=a;obtain⟨C,E,y,t⟩:=u k a;have p:k+1<=9223372036854775807/\∃j,j<m/\c=c/\j=l.length-(k+1)/\k+1<=l.length:=⟨by omega,l.length-(k+1),by omega,rfl,rfl,by omega⟩
  have r:∀(_:l[k].Kind=2),qK E9 DM (some b,()) c (λ(n:Int×Unit)(_:Unit)(d:HY)=>Bn .i64 n.1->Bn .i64 (n.1-1)/\(n.1-(1:Int)<=l[k].Level->Q (2,()) () d)/\(¬n.1-(1:Int)<=l[k].Level->k+1<=9223372036854775807/\∃j,j<m/\d=c/\j=l.length-(k+1)/\k+1<=l.length)) X:=λe=>L7 o s λ_=>⟨A7.2 (by omega),λq=>by omega,λ_=>p⟩
  grind
 all_goals omega
end
structure ArS(b:Nat)(M0:Mn)(H0:HY)(M:Mn)(H:HY):Prop where
 mn:Jr H b M
 mi:MI M
 mv:MV M
 t:∀i,M.T i=none
 kp:Kp M0 M
 ws:M.ws=M0.ws
 fr:Jd b M0 H0 H
theorem ArS.swap{b:Nat}{M0 M:Mn}{H0 H:HY}{level:Int}{X:PX}{Q:Int×Unit->UU}(s:ArS b M0 H0 M H)(u:∀p∈M0.hs,p.2/2=0)(j:M0.nx<576460752303423488)(q:0<=level)(l:level<M.S.n-1)(h:∀M' H'(x y:Int),ArS b M0 H0 M' H'->M.S.lv.vars[level.toNat]?=some x->M.S.lv.vars[level.toNat+1]?=some y->M'.S.lv.vars=(M.S.lv.vars.set level.toNat y).set (level.toNat+1) x->Q (0,()) () H'):qK JN HA (some b,level,()) H Q X:=by refine Aba s.mn s.mi s.mv.me (by rw[s.kp.nx];exact j) (λn=>qG ⟨q,l⟩ n) (λ_ _⟨i,d,w⟩=>qG w (by rw[s.t i];simp)) λM' H' x y _ _ o m v e g c r k t a=>?_;refine h M' H' x y ⟨v,e,g,Ai8 e a λp f=>u p (by rw[<-s.kp.hs,<-c.hs];exact f),s.kp.trans c,r.trans s.ws,s.fr.trans k s.kp.bs⟩ o m (by rw[t];rfl)
theorem MI.perm{M:Mn}(h:MI M):M.S.lv.vars.Perm (Q2 M.S.n.toNat):=by
 have c:M.S.lv.vars.length=M.S.n.toNat:=by rw[h.si.vl];rfl
 have l:=@B9.Ko M.S;refine Og ?_ (λx g=>?_) (by rw[MX,c])
 .refine List.pairwise_iff_getElem.2 λi j a d f e=>?_;have b:=(h.si.inv i _ (a6 a)).2.2;have k:=(h.si.inv j _ (a6 d)).2.2;grind
 .obtain⟨i,a,rfl⟩:=am.1 g;have b:=h.si.inv i _ (a6 a);grind[MW]
theorem Aet{b:Nat}{M0:Mn}{order:List Int}{H0:HY}{X:PX}{Q:Bool×Unit->UU}(s0:ArS b M0 H0 M0 H0)(hc:∀p∈M0.hs,p.2/2=0)(P:M0.nx<576460752303423488)(ho:order=[]∨Yj order M0.S.n.toNat)(h:∀M' H',ArS b M0 H0 M' H'->Q (true,()) () H'):qK Iu EO (some b,order,()) H0 Q X:=by
 refine wF Tryz.f38 {lp:=[(10,⟨[(7,.one (.dat I6))],[0,1,5],true⟩),(6,⟨[(6,.one (.own I6)),(7,.one (.dat I6))],[0,1,5,6],true⟩),(2,⟨[(5,.one (.dat I6))],[0,1],true⟩)]} (?_:Io (some b) order H0 Q X);unfold Io;have hn0:=@B9.Ko M0.S;have h64:=s0.mi.si.BS.od.n64;have hol:order.length<=M0.S.n.toNat:=by
  rcases ho with e|e
  .grind
  .rw[e.ln];omega
 refine⟨λm z H=>∃i:Nat,z.1=(i:Int)/\m=order.length-i/\i<=order.length/\∃M,ArS b M0 H0 M H/\∀k,k<i->M.S.lv.vars[k]?=order[k]?,⟨_,0,rfl,rfl,a7 _,M0,s0,λk r=>qG r (ac _)⟩,?_⟩;rintro m ⟨xi,_⟩ H ⟨i,T,hm,hi,M,s,o⟩;have Z:xi=(i:Int):=T;subst Z;have ti:((i:Int)).toNat=i:=by omega
 refine λ_=>⟨λt=>?_,λt=>h M H s⟩
 have t:(i:Int)<(order.length:Int):=t;have n:i<order.length:=by omega
 have f:Yj order M0.S.n.toNat:=ho.elim (λe=>by grind) id;have D:M.S.n=M0.S.n:=s.kp.n;have J:M.S.lv.vars.length=order.length:=by rw[s.mi.perm.length_eq,MX,D,f.ln]
 refine Zg s.mn s.mi ⟨λm2 z H'=>H'=H/\z.1=M.S.lv.vars/\∃a:Nat,z.2.1=(a:Int)/\m2=M.S.lv.vars.length-a/\i<=a/\a<=M.S.lv.vars.length/\∀k(r:k<M.S.lv.vars.length),i<=k->k<a->M.S.lv.vars[k]≠order[i],⟨_,rfl,rfl,i,rfl,rfl,bg _,by omega,λk _ v h2=>by omega⟩,?_⟩;rintro m2 ⟨L,xa,_⟩ H' ⟨U,g,a,I,hm2,S,hal,C⟩;have U:H'=H:=U;have g:L=M.S.lv.vars:=g;have K:xa=(a:Int):=I;subst U g K;have ta:((a:Int)).toNat=a:=by omega
 have p1:Bn .i64 (i:Int)->(0:Int)<=(i:Int):=λ_=>by omega
 have u:∃p,∃E:p<M.S.lv.vars.length,M.S.lv.vars[p]=order[i]:=by
  have:order[i]∈M.S.lv.vars:=by refine s.mi.perm.mem_iff.2 (MW.2 ?_);rw[D];exact f.rg _ (ak n)
  grind[am]
 obtain⟨p,E,B⟩:=u;have R:i<=p:=by refine a9 λc=>?_;have v:=o p (by omega);rw[a6 E,a6 (by omega),B]at v;have v:=ay v;have:=(List.getElem_inj f.nd).1 v;omega
 refine λ_=>⟨λc _=>?_,λc=>?_⟩
 .have c:(a:Int)<(M.S.lv.vars.length:Int):=c;have O:a<M.S.lv.vars.length:=by omega
  refine⟨λ_=>by omega,by omega,by omega,λ_=>⟨p1,by omega,λl _=>⟨A7.2 (by omega),M.S.lv.vars.length-(a+1),by omega,rfl,rfl,a+1,by rfl,rfl,by omega,by omega,λk r v h2=>?_⟩,λd _ _=>⟨λhl=>qG J hl,λ_ _=>⟨λhe=>?_,λ_=>?_⟩⟩⟩⟩
  .grind
  .omega
  .have d:¬¬M.S.lv.vars[((a:Int)).toNat]'(by omega)=order[((i:Int)).toNat]'(by omega):=d;simp only[ta,ti]at d;have d:=ab.1 d;refine⟨λm3 z H=>∃q:Nat,z.1=(q:Int)/\m3=q/\i<=q/\q<order.length/\∃M',ArS b M0 H0 M' H/\M'.S.lv.vars[q]?=order[i]?/\∀k,k<i->M'.S.lv.vars[k]?=order[k]?,⟨_,a,rfl,rfl,S,by omega,M,s,by rw[a6 O,d,a6 n],o⟩,?_⟩;rintro m3 ⟨xq,_⟩ H3 ⟨q,Y,hm3,hiq,hqo,W,G,A,j⟩;have N:xq=(q:Int):=Y;subst N;have F:W.S.n=M0.S.n:=G.kp.n;have hvl3:W.S.lv.vars.length=order.length:=by rw[G.mi.perm.length_eq,MX,F,f.ln]
   have oln:=f.ln;refine⟨λc _=>⟨A7.2 (by omega),?_⟩,λc _=>⟨A7.2 (by omega),order.length-(i+1),by omega,i+1,by rfl,rfl,by omega,W,G,λk r=>?_⟩⟩
   .have c:(i:Int)<(q:Int):=c;have tq:((q:Int)-1).toNat=q-1:=by omega
    refine G.swap hc P (level:=(q:Int)-1) (by omega) (by omega) λM4 H4 x y s4 e1 V w=>⟨λhh=>qG rfl hh,λ_ _=>⟨A7.2 (by omega),q-1,by omega,q-1,by omega,rfl,by omega,by omega,M4,s4,?_,λk r=>?_⟩⟩
    .rw[tq]at V w;rw[show q-1+1=q by omega]at V w;rw[w,aw (by omega),List.getElem?_set_self (by omega),<-V,A]
    .rw[tq]at w;rw[w,aw (by omega),aw (by omega)];simp_all
   grind
 grind
section
structure Wd(v:Ar):Prop where
 nm:Aj3 v.qJ
 bo:v.Bool=true->v.Lo=0/\v.Hi=0
 nu:v.Bool=false->v.Lo<=v.Hi/\-255<=v.Lo/\v.Hi<=255/\v.Hi-v.Lo<64
structure OT(l:List Ar):Prop where
 ok:∀i(h:i<l.length),Wd l[i]
 ne:∀k i(hi:i<l.length)(hk:k<i),(l[k]'(by omega)).qJ≠l[i].qJ
def BL(v:Ar):Int:=if v.Bool=true then 2 else if v.Hi<v.Lo then 0 else min (v.Hi-v.Lo) 1073741824+1
theorem Rj(v:Ar):0<=BL v/\BL v<=1073741825:=by grind[BL]
theorem Akn(x:Int):u64.wrap x=x%18446744073709551616:=by rfl
variable {v:Ar}
theorem Xp(a:Bn .i64 v.Hi)(b:Bn .i64 v.Lo)(h:¬v.Hi<v.Lo):u64.wrap (u64.wrap v.Hi-u64.wrap v.Lo)=v.Hi-v.Lo:=by grind[A7,Akn]
variable {H:HY} {X:PX} {Q:Int×Unit->UU}
theorem U8(h:Q (BL v,()) () H):qK PZ LO (v,()) H Q X:=by refine wF Tryz.f86 {im:=[1]} (?_:(v.Bool->Q (2,()) () H)/\(¬v.Bool->(v.Hi<v.Lo->Q (0,()) () H)/\(¬v.Hi<v.Lo->IK v.Hi->IK v.Lo->Bn u64 (u64.wrap v.Hi)->Bn u64 (u64.wrap v.Lo)->(u64.wrap (u64.wrap v.Hi-u64.wrap v.Lo)<1073741824->Bn u64 (u64.wrap (u64.wrap v.Hi-u64.wrap v.Lo))->IK (Go.IntKind.wrap .i64 (u64.wrap (u64.wrap v.Hi-u64.wrap v.Lo)))->IK (Go.IntKind.wrap .i64 (u64.wrap (u64.wrap v.Hi-u64.wrap v.Lo))+1)/\Q (Go.IntKind.wrap .i64 (u64.wrap (u64.wrap v.Hi-u64.wrap v.Lo))+1,()) () H)/\(¬u64.wrap (u64.wrap v.Hi-u64.wrap v.Lo)<1073741824->Q (1073741825,()) () H))));unfold BL at h;refine⟨λb=>by grind,λb=>?_⟩;rw[GT b]at h;refine⟨λa=>by grind,λa d f _ _=>?_⟩;rw[GT a]at h;rw[Xp d f a];grind[Go.IntKind.wrap,EL,A7,min]
theorem HD(h:Q (BL v,()) () H):qK BT BE (v,()) H Q X:=by refine wF Tryz.f65 {im:=[1]} (?_:(v.Bool->Q (2,()) () H)/\(¬v.Bool->(v.Hi<v.Lo->Q (0,()) () H)/\(¬v.Hi<v.Lo->IK v.Hi->IK v.Lo->Bn u64 (u64.wrap v.Hi)->Bn u64 (u64.wrap v.Lo)->((1073741824:Int)<u64.wrap (u64.wrap v.Hi-u64.wrap v.Lo)->IK (Go.IntKind.wrap .i64 1073741824)->IK (Go.IntKind.wrap .i64 1073741824+1)/\Q (Go.IntKind.wrap .i64 1073741824+1,()) () H)/\(¬(1073741824:Int)<u64.wrap (u64.wrap v.Hi-u64.wrap v.Lo)->Bn u64 (u64.wrap (u64.wrap v.Hi-u64.wrap v.Lo))->IK (Go.IntKind.wrap .i64 (u64.wrap (u64.wrap v.Hi-u64.wrap v.Lo)))->IK (Go.IntKind.wrap .i64 (u64.wrap (u64.wrap v.Hi-u64.wrap v.Lo))+1)/\Q (Go.IntKind.wrap .i64 (u64.wrap (u64.wrap v.Hi-u64.wrap v.Lo))+1,()) () H))));unfold BL at h;refine⟨λb=>by grind,λb=>?_⟩;rw[GT b]at h;refine⟨λa=>by grind,λa d f _ _=>?_⟩;rw[GT a]at h;rw[Xp d f a];grind[Go.IntKind.wrap,EL,A7,min]
def IsB(n:Int)(k:Nat):Prop:=n<=2^k/\∀j,j<k->(2:Int)^j<n
variable {n:Int}
theorem IsB.Xg{k k':Nat}(h:IsB n k)(c:IsB n k'):k=k':=by
 refine a9 λa=>?_;rcases Nat.lt_or_gt_of_ne a with b|b
 .have:=c.2 k b;have:=h.1;omega
 .have:=h.2 k' b;have:=c.1;omega
noncomputable def EC(n:Int):Nat:=Classical.epsilon (IsB n)
theorem Sl{k:Nat}(h:IsB n k):EC n=k:=(Classical.epsilon_spec (p:=IsB n) ⟨k,h⟩).Xg h
theorem Rt(k:Nat):(2:Int)^k=((2^k:Nat):Int):=by norm_cast
theorem Aa1(u:n<=1073741825)(h:IsB n (EC n)->EC n<=31->Q ((EC n:Int),()) () H):qK VC Qv (n,()) H Q X:=by
 refine wF Tryz.f85 {lp:=[(2,⟨[(4,.nat)],[0],false⟩)]} (?_:∃(V:Nat->Nat×UT->Prop),(∃(n:Nat),H=H/\V n (0,()))/\∀n1 x,V n1 x->(x.1<63->x.1<=2^63-1->(BinOp.shl=BinOp.shr->IK 1)/\(0:Int)<=(↑x.1:Int)/\(n<=Go.IntKind.wrap .i64 (1*2^min (↑x.1:Int).toNat 64)->Q ((↑x.1:Int),()) () H)/\(¬n<=Go.IntKind.wrap .i64 (1*2^min (↑x.1:Int).toNat 64)->x.1+1<=2^63-1/\∃m,m<n1/\H=H/\V m (x.1+1,())))/\(¬x.1<63->Q (63,()) () H));refine⟨λm z=>m=31-z.1/\z.1<=31/\∀j,j<z.1->(2:Int)^j<n,⟨_,rfl,rfl,a7 _,λj g=>qG g (ac _)⟩,?_⟩;rintro m ⟨k,_⟩ ⟨b,d,c⟩;have v:m=31-k:=b;have q:k<=31:=d;have g:∀j,j<k->(2:Int)^j<n:=c;have w:2^k<=2^31:=al (by omega) q;have i:(2:Nat)^31=2147483648:=by decide
 have r:Go.IntKind.wrap .i64 (1*2^min ((k:Int)).toNat 64)=(2:Int)^k:=by rw[show min ((k:Int)).toNat 64=k by omega,Int.one_mul];grind[Rt,Int.natCast_nonneg,Int.ofNat_le,EL,A7]
 refine⟨λ_ _=>⟨λe=>qG e (by decide),by omega,λa=>?_,λa=>?_⟩,λo=>qG (show k<63 by omega) o⟩
 .have a:n<=Go.IntKind.wrap .i64 (1*2^min ((k:Int)).toNat 64):=a;rw[r]at a;have s:IsB n k:=⟨a,g⟩
  grind[Sl]
 .have a:¬n<=Go.IntKind.wrap .i64 (1*2^min ((k:Int)).toNat 64):=a;rw[r]at a;have t:k≠31:=λe=>by grind
  refine⟨by grind,31-(k+1),by omega,rfl,rfl,by grind,λj f=>?_⟩;grind
theorem WA(D:0<=n)(J:n<=1073741825)(h:IsB n (EC n)->EC n<=40->Q ((EC n:Int),()) () H):qK JX Gi (n,()) H Q X:=by
 refine wF Tryz.f64 {lp:=[(2,⟨[(0,.one (.dat I6)),(3,.nat)],[],false⟩)]} (?_:∃(V:Nat->Int×Nat×UT->Prop),(∃(n1:Nat),H=H/\V n1 (n,0,()))/\∀n x,V n x->((1:Int)<x.1->IK x.1->¬(2:Int)=0/\IK (x.1.tdiv 2)/\(IK x.1->¬(2:Int)=0/\IK (x.1.tmod 2)/\(IK (x.1.tdiv 2)->IK (x.1.tmod 2)->IK (x.1.tdiv 2+x.1.tmod 2)/\x.2.1+1<=2^63-1/\∃m,m<n/\H=H/\V m (x.1.tdiv 2+x.1.tmod 2,x.2.1+1,()))))/\(¬(1:Int)<x.1->Q ((↑x.2.1:Int),()) () H));refine⟨λm z=>m=z.1.toNat/\0<=z.1/\z.1*2^z.2.1<n+2^z.2.1/\n<=z.1*2^z.2.1/\z.2.1<=31/\(z.1<=1∨z.2.1<=30)/\∀j,j<z.2.1->(2:Int)^j<n,⟨_,rfl,rfl,D,by grind,by simp,a7 _,.inr (a7 _),λj r=>qG r (ac _)⟩,?_⟩;rintro m ⟨x,k,_⟩ ⟨q,o,p,g,i,a,f⟩;have M:m=x.toNat:=q;have w:0<=x:=o;have G:x*2^k<n+2^k:=p;have K:n<=x*2^k:=g;have L:k<=31:=i;have E:x<=1∨k<=30:=a;have r:∀j,j<k->(2:Int)^j<n:=f;have v:(0:Int)<2^k:=by grind
 have y:(2:Int)^(k+1)=2*2^k:=by omega
 have I:x<=n+1:=by refine a9 λC=>?_;have d:(x-1)*1<=(x-1)*2^k:=Int.mul_le_mul_of_nonneg_left (by omega) (by omega);grind
 refine⟨λd _=>?_,λd=>?_⟩
 .have d:1<x:=d;have c:x.tdiv 2=x/2:=Int.tdiv_eq_ediv_of_nonneg w;have b:x.tmod 2=x%2:=Int.tmod_eq_emod_of_nonneg w;refine⟨by decide,A7.2 (by grind),λ_=>⟨by decide,A7.2 (by grind),λ_ _=>⟨A7.2 (by grind),by grind,(x.tdiv 2+x.tmod 2).toNat,?_,rfl,rfl,?_,?_,?_,?_,?_,λj l=>?_⟩⟩⟩
  .omega
  .grind
  .show (x.tdiv 2+x.tmod 2)*2^(k+1)<n+2^(k+1);rw[c,b,y];have s:2*(x/2+x%2)<=x+1:=by omega
   have A:(2*(x/2+x%2))*2^k<=(x+1)*2^k:=ae s (by omega);grind
  .show n<=(x.tdiv 2+x.tmod 2)*2^(k+1);rw[c,b,y];have s:x<=2*(x/2+x%2):=by omega
   have A:x*2^k<=(2*(x/2+x%2))*2^k:=ae s (by omega);grind
  .grind
  .grind
  .have l:j<k+1:=l;by_cases e:j=k
   .rw[e];have F:2*2^k<=x*2^k:=ae (by omega) (by omega);omega
   grind
 .have d:¬1<x:=d;have B:IsB n k:=by refine⟨?_,r⟩;grind
  grind[Sl]
end
section
noncomputable def Ck(l:List Ar):List Int:=l.map λv=>(EC (BL v):Int)
variable {l:List Ar}
theorem Du:(Ck l).length=l.length:=by unfold Ck;rw[ad]
theorem Iy{i:Nat}(h:i<l.length):(Ck l)[i]'(by rw[Du];exact h)=(EC (BL l[i]):Int):=by unfold Ck;rw[List.getElem_map]
noncomputable def GC(l:List Ar):Int:=D0 (Ck l) l.length
variable {H:HY} {X:PX}
theorem PR{Q:Int×Unit->UU}(t:l.length<=1000000000000000)(h:0<=GC l->GC l<=40*(l.length:Int)->Q (GC l,()) () H):qK FM Eh (l,()) H Q X:=by
 refine wF Tryz.f32 {} (?_:qK JW Gh ({Aa:=l,Defs:=[],Init:=[],Acu:=[],Next:=[],Trans:=[],Fair:=[],Acm:=[]:Im},()) H (λ(b:Int×UT)_ G=>Q (b.1,()) () G) X);apply NL;unfold JR;refine⟨λm z=>m=l.length-z.2.1/\z.2.1<=l.length/\z.1=D0 (Ck l) z.2.1/\0<=z.1/\z.1<=40*(z.2.1:Int),⟨_,rfl,rfl,a7 _,rfl,by omega,by omega⟩,?_⟩;rintro m ⟨s,k,_⟩ ⟨i,g,f,e,d⟩;have r:m=l.length-k:=i;have p:k<=l.length:=g;have n:s=D0 (Ck l) k:=f;have j:0<=s:=e;have o:s<=40*(k:Int):=d;refine λ_=>⟨λa _=>?_,λa=>?_⟩
 .have a:k<l.length:=a;have c:=Rj l[k];refine⟨a,HD (WA c.1 c.2 λq b _ _=>⟨A7.2 ?_,by grind,l.length-(k+1),by omega,rfl,rfl,by grind,?_,?_,?_⟩)⟩
  .omega
  .show s+(EC (BL l[k]):Int)=D0 (Ck l) (k+1);rw[Eo (by grind[Du]),Iy a,n]
  all_goals grind
 .have a:¬k<l.length:=a;have:k=l.length:=by omega
  subst this;show Q (s,()) () H;rw[n]at j o ⊢;exact h j o
theorem Ns{n:Int}{Q:Bool×Unit->UU}(h:Q (decide (-255<=n/\n<=255),()) () H):qK CW Cv (n,()) H Q X:=by grind[Ae6,ZZ]
theorem W9{Q:Int×Int×Unit->UU}(h:∀i e:Int,(e=0->OT l)->Q (i,e,()) () H):qK JV Gg (l,()) H Q X:=by
 refine wF Tryz.f34 {lp:=[(7,⟨[(5,.nat)],[0,4],false⟩),(2,⟨[(4,.nat)],[0],false⟩)]} (?_:∃(V:Nat->Nat×UT->Prop),(∃(n:Nat),H=H/\V n (0,()))/\∀n x,V n x->l.length<=2^63-1->(x.1<l.length->x.1<=2^63-1->∃(h:x.1<l.length),qK Lk HV (l[x.1].qJ,()) H (λ(b:Bool×UT)_ G=>(¬b.1->Q ((↑x.1:Int),12,()) () G)/\(¬¬b.1->∃(V1:Nat->Nat×UT->Prop),(∃(n:Nat),G=G/\V1 n (0,()))/\∀n1 x1,V1 n1 x1->(x1.1<x.1->x1.1<=2^63-1->∃(h:x1.1<l.length),x.1<=2^63-1->∃(h1:x.1<l.length),(l[x1.1].qJ=l[x.1].qJ->Q ((↑x.1:Int),6,()) () G)/\(¬l[x1.1].qJ=l[x.1].qJ->x1.1+1<=2^63-1/\∃m,m<n1/\G=G/\V1 m (x1.1+1,())))/\(¬x1.1<x.1->x.1<=2^63-1->∃(h:x.1<l.length),(l[x.1].Bool->x.1<=2^63-1->∃(h:x.1<l.length),(¬l[x.1].Lo=0->Q ((↑x.1:Int),3,()) () G)/\(¬¬l[x.1].Lo=0->x.1<=2^63-1->∃(h:x.1<l.length),(¬l[x.1].Hi=0->Q ((↑x.1:Int),3,()) () G)/\(¬¬l[x.1].Hi=0->x.1<=2^63-1->∃(h:x.1<l.length),(¬l[x.1].Bool->x.1<=2^63-1->∃(h:x.1<l.length),x.1<=2^63-1->∃(h1:x.1<l.length),(l[x.1].Hi<l[x.1].Lo->Q ((↑x.1:Int),2,()) () G)/\(¬l[x.1].Hi<l[x.1].Lo->x.1<=2^63-1->∃(h:x.1<l.length),qK CW Cv (l[x.1].Lo,()) G (λ(b:Bool×UT)_ G=>(¬b.1->Q ((↑x.1:Int),2,()) () G)/\(¬¬b.1->x.1<=(2^63-1:Nat)->∃(h:x.1<l.length),qK CW Cv (l[x.1].Hi,()) G (λ(b:Bool×UT)_ G=>(¬b.1->Q ((↑x.1:Int),(2:Int),()) () G)/\(¬¬b.1->x.1<=(2^63-1:Nat)->∃(h:x.1<l.length),qK BT BE (l[x.1],()) G (λ(b:Int×UT)_ G=>((64:Int)<b.1->Q ((↑x.1:Int),(2:Int),()) () G)/\(¬(64:Int)<b.1->x.1+1<=(2^63-1:Nat)/\∃m,m<n/\G=H/\V m (x.1+1,()))) X)) X)) X))/\(¬¬l[x.1].Bool->dup (x.1+1<=2^63-1/\∃m,m<n/\G=H/\V m (x.1+1,()))))))/\(¬l[x.1].Bool->x.1<=2^63-1->∃(h:x.1<l.length),(¬l[x.1].Bool->x.1<=2^63-1->∃(h:x.1<l.length),x.1<=2^63-1->∃(h1:x.1<l.length),(l[x.1].Hi<l[x.1].Lo->Q ((↑x.1:Int),2,()) () G)/\(¬l[x.1].Hi<l[x.1].Lo->x.1<=2^63-1->∃(h:x.1<l.length),qK CW Cv (l[x.1].Lo,()) G (λ(b:Bool×UT)_ G=>(¬b.1->Q ((↑x.1:Int),2,()) () G)/\(¬¬b.1->x.1<=2^63-1->∃(h:x.1<l.length),qK CW Cv (l[x.1].Hi,()) G (λ(b:Bool×UT)_ G=>(¬b.1->Q ((↑x.1:Int),2,()) () G)/\(¬¬b.1->x.1<=(2^63-1:Nat)->∃(h:x.1<l.length),qK BT BE (l[x.1],()) G (λ(b:Int×UT)_ G=>((64:Int)<b.1->Q ((↑x.1:Int),2,()) () G)/\(¬(64:Int)<b.1->x.1+1<=(2^63-1:Nat)/\∃m,m<n/\G=H/\V m (x.1+1,()))) X)) X)) X))/\(¬¬l[x.1].Bool->dup (x.1+1<=2^63-1/\∃m,m<n/\G=H/\V m (x.1+1,()))))))) X)/\(¬x.1<l.length->Q (0,0,()) () H));have o:∀{i e:Int},e≠0->Q (i,e,()) () H:=λS=>h _ _ λe=>qG e S;refine⟨λm z=>m=l.length-z.1/\z.1<=l.length/\(∀i(h:i<l.length),i<z.1->Wd l[i])/\∀k i(v:i<l.length)(g:k<i),i<z.1->(l[k]'(by omega)).qJ≠l[i].qJ,⟨_,rfl,rfl,a7 _,λi _ v=>qG v (ac _),λk i _ _ v=>qG v (ac _)⟩,?_⟩;rintro m ⟨i,_⟩ ⟨y,x,q,r⟩;have hm:m=l.length-i:=y;have v:i<=l.length:=x;have O:∀j(h:j<l.length),j<i->Wd l[j]:=q;have M:∀k j(f:j<l.length)(g:k<j),j<i->(l[k]'(by omega)).qJ≠l[j].qJ:=r;refine λV=>⟨λa _=>?_,λa=>?_⟩
 .have a:i<l.length:=a;have Y:i+1<=9223372036854775807:=by omega
  refine⟨a,Aao λt T=>⟨λ_=>o (by decide),λD=>⟨λm z=>m=i-z.1/\z.1<=i/\∀k(g:k<l.length),k<z.1->l[k].qJ≠l[i].qJ,⟨_,rfl,rfl,a7 _,λk _ g=>qG g (ac _)⟩,?_⟩⟩⟩;have L:Aj3 l[i].qJ:=T.1 (ab.1 D);rintro B ⟨k,_⟩ ⟨p,w,s⟩;have Z:B=i-k:=p;have g:k<=i:=w;have N:∀d(g:d<l.length),d<k->l[d].qJ≠l[i].qJ:=s;refine⟨λc _=>?_,λc _=>⟨a,?_⟩⟩
  .have c:k<i:=c;refine⟨by omega,λ_=>⟨a,λ_=>o (by decide),λI=>⟨by grind,i-(k+1),by omega,rfl,rfl,by grind,λd J u=>?_⟩⟩⟩;grind
  .have c:¬k<i:=c;have P:Wd l[i]->i+1<=9223372036854775807/\∃B,B<m/\H=H/\B=l.length-(i+1)/\i+1<=l.length/\(∀j(h:j<l.length),j<i+1->Wd l[j])/\∀k j(f:j<l.length)(g:k<j),j<i+1->(l[k]'(by omega)).qJ≠l[j].qJ:=λU=>⟨Y,l.length-(i+1),by omega,rfl,rfl,by omega,λj f K=>by
    grind,λd j f F K=>by
    grind⟩
   refine⟨λn _=>⟨a,λ_=>o (by decide),λR _=>⟨a,λ_=>o (by decide),λW _=>⟨a,λb=>qG n b,λ_=>Sf (P ⟨L,λ_=>⟨ab.1 R,ab.1 W⟩,λe=>qG (show l[i].Bool=true from n) (by grind)⟩)⟩⟩⟩,λb _=>⟨a,λ_ _=>⟨a,λ_=>⟨a,λ_=>o (by decide),λE _=>⟨a,Ns ⟨λ_=>o (by decide),λG _=>⟨a,Ns ⟨λ_=>o (by decide),λC _=>⟨a,HD ⟨λ_=>o (by decide),λA=>P ?_⟩⟩⟩⟩⟩⟩⟩⟩,λn=>qG b n⟩⟩;have b:¬l[i].Bool=true:=b;have E:¬l[i].Hi<l[i].Lo:=E;have G:=of_decide_eq_true (ab.1 G);have C:=of_decide_eq_true (ab.1 C);have A:¬(64:Int)<BL l[i]:=A;unfold BL at A;rw[GT b,GT E]at A;exact⟨L,λe=>qG e b,λ_=>⟨by omega,G.1,C.2,by omega⟩⟩
 .have a:¬i<l.length:=a;exact h 0 0 λ_=>⟨λj f=>O j f (by omega),λk j f g=>M k j f g (by omega)⟩
theorem U7{Q:Int×Int×Unit->UU}(C:OT l)(V:l.length<=1000)(h:∀H',(∀c,H c≠none->H' c=H c)->Q (0,0,()) () H'):qK PY LN (l,()) H Q X:=by
 refine wF Tryz.f84 {lp:=[(2,⟨[(10,.nat)],[0,8,9],true⟩)],pr:=[(5,23)]} (?_:l.length<=2^63-1->∃(V:Nat->Nat×UT->HP),(∃(n:Nat),V n (0,()) H)/\∀n x H,V n x H->(x.1<l.length->x.1<=2^63-1->∃(h:x.1<l.length),∀(b:Nat),H b=none->((255:Int)<GZ true l[x.1].Lo [(.i64,l[x.1].Hi)]->qK Tp Pl (l[x.1].qJ,()) (Ab H b (Ob.st GP l[x.1])) (λ(b1:Bool×UT)_ G=>(¬b1.1->Q ((↑x.1:Int),12,()) () G)/\(¬¬b1.1->0<=x.1/\x.1<=l.length/\qK Bq AQ (av (x.1-0) (b7 0 l),λ(a:Ar×UT)(H:HY)(Q:Bool×UT->HP)(X:Nat->Lf Y0.D->HP)=>qK Kt HQ (a.1,some b,()) H (λ(b:Bool×UT)(x:UT)(G:HY)=>Q (b.1,()) G) X,()) G (λ(b2:Bool×UT)_ G=>(b2.1->Q ((↑x.1:Int),6,()) () G)/\(¬b2.1->∃(x1:Ar),G b=some (Ob.st GP x1)/\(x1.Bool->(¬x1.Lo=0->x1=x1/\Q ((↑x.1:Int),3,()) () G)/\(¬¬x1.Lo=0->(¬x1.Hi=0->x1=x1/\Q ((↑x.1:Int),3,()) () G)/\(¬¬x1.Hi=0->(¬x1.Bool->(x1.Hi<x1.Lo->x1=x1/\Q ((↑x.1:Int),2,()) () G)/\(¬x1.Hi<x1.Lo->x1=x1/\Q ((↑x.1:Int),2,()) () G))/\(¬¬x1.Bool->x.1+1<=2^63-1/\∃m,m<n/\x1=x1/\V m (x.1+1,()) G))))/\(¬x1.Bool->(¬x1.Bool->(x1.Hi<x1.Lo->x1=x1/\Q ((↑x.1:Int),2,()) () G)/\(¬x1.Hi<x1.Lo->x1=x1/\Q ((↑x.1:Int),2,()) () G))/\(¬¬x1.Bool->x.1+1<=2^63-1/\∃m,m<n/\x1=x1/\V m (x.1+1,()) G)))) X)) X)/\(¬(255:Int)<GZ true l[x.1].Lo [(.i64,l[x.1].Hi)]->qK Tp Pl (l[x.1].qJ,()) (Ab H b (Ob.st GP l[x.1])) (λ(b1:Bool×UT)_ G=>(¬b1.1->Q ((↑x.1:Int),12,()) () G)/\(¬¬b1.1->0<=x.1/\x.1<=l.length/\qK Bq AQ (av (x.1-0) (b7 0 l),λ(a:Ar×UT)(H:HY)(Q:Bool×UT->HP)(X:Nat->Lf Y0.D->HP)=>qK Kt HQ (a.1,some b,()) H (λ(b:Bool×UT)(x:UT)(G:HY)=>Q (b.1,()) G) X,()) G (λ(b2:Bool×UT)_ G=>(b2.1->Q ((↑x.1:Int),6,()) () G)/\(¬b2.1->∃(x1:Ar),G b=some (Ob.st GP x1)/\(x1.Bool->(¬x1.Lo=0->x1=x1/\Q ((↑x.1:Int),3,()) () G)/\(¬¬x1.Lo=0->(¬x1.Hi=0->x1=x1/\Q ((↑x.1:Int),3,()) () G)/\(¬¬x1.Hi=0->(¬x1.Bool->(x1.Hi<x1.Lo->x1=x1/\Q ((↑x.1:Int),2,()) () G)/\(¬x1.Hi<x1.Lo->(GZ false l[x.1].Lo [(.i64,l[x.1].Hi)] < -255->x1=x1/\Q ((↑x.1:Int),2,()) () G)/\(¬GZ false l[x.1].Lo [(.i64,l[x.1].Hi)] < -255->IK x1.Hi->IK x1.Lo->IK (x1.Hi-x1.Lo)/\((64:Int)<=x1.Hi-x1.Lo->x1=x1/\Q ((↑x.1:Int),2,()) () G)/\(¬(64:Int)<=x1.Hi-x1.Lo->x.1+1<=2^63-1/\∃m,m<n/\x1=x1/\V m (x.1+1,()) G))))/\(¬¬x1.Bool->x.1+1<=2^63-1/\∃m,m<n/\x1=x1/\V m (x.1+1,()) G))))/\(¬x1.Bool->(¬x1.Bool->(x1.Hi<x1.Lo->x1=x1/\Q ((↑x.1:Int),2,()) () G)/\(¬x1.Hi<x1.Lo->(GZ false l[x.1].Lo [(.i64,l[x.1].Hi)] < -255->x1=x1/\Q ((↑x.1:Int),2,()) () G)/\(¬GZ false l[x.1].Lo [(.i64,l[x.1].Hi)] < -255->IK x1.Hi->IK x1.Lo->IK (x1.Hi-x1.Lo)/\((64:Int)<=x1.Hi-x1.Lo->x1=x1/\Q ((↑x.1:Int),2,()) () G)/\(¬(64:Int)<=x1.Hi-x1.Lo->x.1+1<=2^63-1/\∃m,m<n/\x1=x1/\V m (x.1+1,()) G))))/\(¬¬x1.Bool->x.1+1<=2^63-1/\∃m,m<n/\x1=x1/\V m (x.1+1,()) G)))) X)) X))/\(¬x.1<l.length->Q (0,0,()) () H));refine λ_=>⟨λm z H'=>m=l.length-z.1/\z.1<=l.length/\∀c,H c≠none->H' c=H c,⟨_,rfl,a7 _,λ_ _=>rfl⟩,?_⟩
 rintro m ⟨i,_⟩ p ⟨n,o,F⟩;have q:m=l.length-i:=n;have T:i<=l.length:=o;refine⟨λa _=>?_,λa=>h p F⟩;have a:i<l.length:=a;refine⟨a,λb O=>?_⟩;have t:=C.ok i a;have L:∀c,H c≠none->Ab p b (.st GP l[i]) c=H c:=λc D=>by grind[Ag]
 have M:GZ true l[i].Lo [(.i64,l[i].Hi)]=max l[i].Lo l[i].Hi:=by rfl
 have N:GZ false l[i].Lo [(.i64,l[i].Hi)]=min l[i].Lo l[i].Hi:=by rfl
 have W:l[i].Lo<=l[i].Hi/\-255<=l[i].Lo/\l[i].Hi<=255/\l[i].Hi-l[i].Lo<64:=by
  cases e:l[i].Bool with
  |true=>have:=t.bo e;omega
  |false=>exact t.nu e
 have G:∀(A:Ar),A=l[i]->(i+1<=9223372036854775807/\∃r,r<m/\A=A/\r=l.length-(i+1)/\i+1<=l.length/\∀c,H c≠none->Ab p b (.st GP l[i]) c=H c):=λ_ _=>⟨by omega,l.length-(i+1),by omega,rfl,rfl,by omega,L⟩
 refine⟨λq=>?_,λq=>Ad8 t.nm ⟨λI=>qG rfl I,λ_=>⟨a7 _,by omega,?_⟩⟩⟩
 .grind
 apply D7;unfold BW;apply DH;unfold Ce;have u:(av (i-0) (b7 0 l)).length=i:=by grind
 refine λ_=>⟨λr z H'=>H'=Ab p b (.st GP l[i])/\∃k:Nat,z.1=(k:Int)/\r=i-k/\k<=i,⟨_,rfl,0,rfl,rfl,a7 _⟩,?_⟩
 rintro r ⟨P,_⟩ S ⟨w,k,B,R,U⟩;have w:S=Ab p b (.st GP l[i]):=w;have y:P=(k:Int):=B;subst w y;have J:((k:Int)).toNat=k:=by omega
 refine⟨λf _=>?_,λf=>?_⟩
 .have f:(k:Int)<((av (i-0) (b7 0 l)).length:Int):=f;rw[u]at f;have x:k<i:=by omega
  refine⟨λ_=>by omega,by omega,?_⟩;apply TQ;unfold Np;refine⟨b,rfl,l[i],Ai _ _ _,rfl,λg=>?_,λ_ _=>⟨A7.2 (by omega),i-(k+1),by omega,rfl,k+1,by rfl,rfl,by omega⟩⟩;have g:=of_decide_eq_true g;have K:((av (i-0) (b7 0 l))[((k:Int)).toNat]'(by omega))=l[k]'(by omega):=by simp
  have g:((av (i-0) (b7 0 l))[((k:Int)).toNat]'(by omega)).qJ=l[i].qJ:=g;rw[K]at g;exact qG g (C.ne k i a x)
 .refine⟨λg=>qG g (by decide),λ_=>⟨l[i],Ai _ _ _,λd=>⟨λv=>qG (t.bo d).1 v,λ_=>⟨λs=>qG (t.bo d).2 s,λ_=>⟨λj=>qG d j,λ_=>G _ rfl⟩⟩⟩,λj=>⟨λ_=>⟨λv=>?_,λ_=>⟨λs=>?_,λ_ _ _=>⟨A7.2 ?_,λE=>?_,λ_=>G _ rfl⟩⟩⟩,λd=>qG j d⟩⟩⟩;all_goals grind
end
section
theorem Ank{n:Int}:∀{m:Nat},n<=2^m->∃k,k<=m/\IsB n k
 |0,h=>⟨0,bg _,h,λj a=>qG a (ac _)⟩
 |m+1,h=>by
  by_cases c:n<=2^m
  .obtain⟨k,e,b⟩:=Ank c;exact⟨k,by omega,b⟩
  .refine⟨m+1,bg _,h,λj a=>?_⟩;have:(2:Nat)^j<=2^m:=al (by omega) (by omega);grind
theorem Sm{n:Int}{m:Nat}(h:n<=2^m):EC n<=m/\IsB n (EC n):=by grind[Ank,Sl]
theorem Aoy(v:Ar):EC (BL v)<=31:=by
 have:=Rj v;have a:(2:Int)^31=2147483648:=by decide
 exact(Sm (by omega)).1
theorem Y3{l:List Ar}:∀{k:Nat},k<=l.length->0<=D0 (Ck l) k/\D0 (Ck l) k<=31*(k:Int)
 |0,_=>by simp [D0]
 |k+1,h=>by have a:=Y3 (l:=l) (k:=k) (by omega);grind[Aoy,Eo,Du,Iy]
noncomputable def ND(l:List Ar):List Int:=(ar l.length).map λi=>D0 (Ck l) i
variable {l:List Ar}
theorem Lz:(ND l).length=l.length:=by unfold ND;simp
theorem Acg{i:Nat}(h:i<l.length):(ND l)[i]'(by rw[Lz];exact h)=D0 (Ck l) i:=by unfold ND;simp
noncomputable def Dg(l:List Ar):Ac:={Aa:=l,Bits:=Ck l,At:=ND l}
theorem Ajk{H:HY}{X:PX}{Q:Ac×Int×Unit->UU}(B:OT l)(F:l.length<=1000)(C:GC l<=30)(h:∀H',(∀c,H c≠none->H' c=H c)->Q (Dg l,0,()) () H'):qK Ab1 UK (l,()) H Q X:=by
 refine wF Tryz.f37 {lp:=[(8,⟨[(2,.blk [.own (.u 0),.own I6,.own I6]),(6,.one (.dat I6)),(29,.nat)],[27,28],true⟩)]} (?_:qK PY LN (l,()) H (λ(b:Int×Int×UT)_ G=>(¬b.2.1=0->Q ({Aa:=[],Bits:=[],At:=[]:Ac},b.2.1,()) () G)/\(¬¬b.2.1=0->l.length<=2^63-1->l.length<=2^63-1->l.length<=2^63-1->(0:Int)<=(↑l.length:Int)/\(↑l.length:Int)=(↑l.length:Int)/\(↑l.length:Int).toNat*40<=281474976710656/\0<=(aa (↑l.length:Int).toNat {qJ:={data:={toList:=[]:Array UInt8}:ByteArray},Bool:=false,Lo:=0,Hi:=0:Ar}).length/\(l.length<=2^63-1->∃(V:Nat->(List Ar×List Int×List Int×UT)×Int×Nat×UT->HP),(∃(n:Nat),V n ((av 0 (aa (↑l.length:Int).toNat {qJ:={data:={toList:=[]:Array UInt8}:ByteArray},Bool:=false,Lo:=0,Hi:=0:Ar})++(av (min l.length ((aa (↑l.length:Int).toNat {qJ:={data:={toList:=[]:Array UInt8}:ByteArray},Bool:=false,Lo:=0,Hi:=0:Ar}).length-0)) l++b7 (0+min l.length ((aa (↑l.length:Int).toNat {qJ:={data:={toList:=[]:Array UInt8}:ByteArray},Bool:=false,Lo:=0,Hi:=0:Ar}).length-0)) (aa (↑l.length:Int).toNat {qJ:={data:={toList:=[]:Array UInt8}:ByteArray},Bool:=false,Lo:=0,Hi:=0:Ar})),[],[],()),0,0,()) G)/\∀n x H,V n x H->(x.2.2.1<l.length->x.2.2.1<=2^63-1->∃(h:x.2.2.1<l.length),qK PZ LO (l[x.2.2.1],()) H (λ(b:Int×UT)_ G=>qK VC Qv (b.1,()) G (λ(b:Int×UT)_ G=>((((x.1.2.1.length+[b.1].length)*8<=2^47/\dup ((x.1.2.2.1.length+[x.2.1].length)*8<=2^47/\(IK x.2.1->IK b.1->IK (x.2.1+b.1)/\x.2.2.1+1<=2^63-1/\∃m,m<n/\V m ((x.1.1,x.1.2.1++[b.1],x.1.2.2.1++[x.2.1],()),x.2.1+b.1,x.2.2.1+1,()) G)))/\dup (dup ((x.1.2.1.length+[b.1].length)*8<=2^47/\(x.1.2.2.1.length+[x.2.1].length)*8<=2^47/\(IK x.2.1->IK b.1->IK (x.2.1+b.1)/\x.2.2.1+1<=2^63-1/\∃m,m<n/\V m ((x.1.1,x.1.2.1++[b.1],x.1.2.2.1++[x.2.1],()),x.2.1+b.1,x.2.2.1+1,()) G))))/\dup (dup ((x.1.2.1.length+[b.1].length)*8<=2^47/\(x.1.2.2.1.length+[x.2.1].length)*8<=2^47/\(IK x.2.1->IK b.1->IK (x.2.1+b.1)/\x.2.2.1+1<=2^63-1/\∃m,m<n/\V m ((x.1.1,x.1.2.1++[b.1],x.1.2.2.1++[x.2.1],()),x.2.1+b.1,x.2.2.1+1,()) G))/\(x.1.2.1.length+[b.1].length)*8<=2^47/\(x.1.2.2.1.length+[x.2.1].length)*8<=2^47/\(IK x.2.1->IK b.1->IK (x.2.1+b.1)/\x.2.2.1+1<=2^63-1/\∃m,m<n/\V m ((x.1.1,x.1.2.1++[b.1],x.1.2.2.1++[x.2.1],()),x.2.1+b.1,x.2.2.1+1,()) G)))/\((((x.1.2.1.length+[b.1].length)*8<=2^47/\dup ((x.1.2.2.1.length+[x.2.1].length)*8<=2^47/\(IK x.2.1->IK b.1->IK (x.2.1+b.1)/\x.2.2.1+1<=2^63-1/\∃m,m<n/\V m ((x.1.1,x.1.2.1++[b.1],x.1.2.2.1++[x.2.1],()),x.2.1+b.1,x.2.2.1+1,()) G)))/\dup (dup ((x.1.2.1.length+[b.1].length)*8<=2^47/\(x.1.2.2.1.length+[x.2.1].length)*8<=2^47/\(IK x.2.1->IK b.1->IK (x.2.1+b.1)/\x.2.2.1+1<=2^63-1/\∃m,m<n/\V m ((x.1.1,x.1.2.1++[b.1],x.1.2.2.1++[x.2.1],()),x.2.1+b.1,x.2.2.1+1,()) G))))/\(dup ((x.1.2.1.length+[b.1].length)*8<=2^47/\(x.1.2.2.1.length+[x.2.1].length)*8<=2^47/\(IK x.2.1->IK b.1->IK (x.2.1+b.1)/\x.2.2.1+1<=2^63-1/\∃m,m<n/\V m ((x.1.1,x.1.2.1++[b.1],x.1.2.2.1++[x.2.1],()),x.2.1+b.1,x.2.2.1+1,()) G))/\(x.1.2.1.length+[b.1].length)*8<=2^47/\(x.1.2.2.1.length+[x.2.1].length)*8<=2^47/\(IK x.2.1->IK b.1->IK (x.2.1+b.1)/\x.2.2.1+1<=2^63-1/\∃m,m<n/\V m ((x.1.1,x.1.2.1++[b.1],x.1.2.2.1++[x.2.1],()),x.2.1+b.1,x.2.2.1+1,()) G))/\dup ((x.1.2.1.length+[b.1].length)*8<=2^47/\(x.1.2.2.1.length+[x.2.1].length)*8<=2^47/\(IK x.2.1->IK b.1->IK (x.2.1+b.1)/\x.2.2.1+1<=2^63-1/\∃m,m<n/\V m ((x.1.1,x.1.2.1++[b.1],x.1.2.2.1++[x.2.1],()),x.2.1+b.1,x.2.2.1+1,()) G)))/\((dup ((x.1.2.1.length+[b.1].length)*8<=2^47/\(x.1.2.2.1.length+[x.2.1].length)*8<=2^47/\(IK x.2.1->IK b.1->IK (x.2.1+b.1)/\x.2.2.1+1<=2^63-1/\∃m,m<n/\V m ((x.1.1,x.1.2.1++[b.1],x.1.2.2.1++[x.2.1],()),x.2.1+b.1,x.2.2.1+1,()) G))/\(x.1.2.1.length+[b.1].length)*8<=2^47/\(x.1.2.2.1.length+[x.2.1].length)*8<=2^47/\(IK x.2.1->IK b.1->IK (x.2.1+b.1)/\x.2.2.1+1<=2^63-1/\∃m,m<n/\V m ((x.1.1,x.1.2.1++[b.1],x.1.2.2.1++[x.2.1],()),x.2.1+b.1,x.2.2.1+1,()) G))/\(dup ((x.1.2.1.length+[b.1].length)*8<=2^47/\(x.1.2.2.1.length+[x.2.1].length)*8<=2^47/\(IK x.2.1->IK b.1->IK (x.2.1+b.1)/\x.2.2.1+1<=2^63-1/\∃m,m<n/\V m ((x.1.1,x.1.2.1++[b.1],x.1.2.2.1++[x.2.1],()),x.2.1+b.1,x.2.2.1+1,()) G))/\(x.1.2.1.length+[b.1].length)*8<=2^47/\(x.1.2.2.1.length+[x.2.1].length)*8<=2^47/\(IK x.2.1->IK b.1->IK (x.2.1+b.1)/\x.2.2.1+1<=2^63-1/\∃m,m<n/\V m ((x.1.1,x.1.2.1++[b.1],x.1.2.2.1++[x.2.1],()),x.2.1+b.1,x.2.2.1+1,()) G))/\dup ((x.1.2.1.length+[b.1].length)*8<=2^47/\(x.1.2.2.1.length+[x.2.1].length)*8<=2^47/\(IK x.2.1->IK b.1->IK (x.2.1+b.1)/\x.2.2.1+1<=2^63-1/\∃m,m<n/\V m ((x.1.1,x.1.2.1++[b.1],x.1.2.2.1++[x.2.1],()),x.2.1+b.1,x.2.2.1+1,()) G)))/\(dup ((x.1.2.1.length+[b.1].length)*8<=2^47/\(x.1.2.2.1.length+[x.2.1].length)*8<=2^47/\(IK x.2.1->IK b.1->IK (x.2.1+b.1)/\x.2.2.1+1<=2^63-1/\∃m,m<n/\V m ((x.1.1,x.1.2.1++[b.1],x.1.2.2.1++[x.2.1],()),x.2.1+b.1,x.2.2.1+1,()) G))/\(x.1.2.1.length+[b.1].length)*8<=2^47/\(x.1.2.2.1.length+[x.2.1].length)*8<=2^47/\(IK x.2.1->IK b.1->IK (x.2.1+b.1)/\x.2.2.1+1<=2^63-1/\∃m,m<n/\V m ((x.1.1,x.1.2.1++[b.1],x.1.2.2.1++[x.2.1],()),x.2.1+b.1,x.2.2.1+1,()) G))/\dup (dup ((x.1.2.1.length+[b.1].length)*8<=2^47/\(x.1.2.2.1.length+[x.2.1].length)*8<=2^47/\(IK x.2.1->IK b.1->IK (x.2.1+b.1)/\x.2.2.1+1<=2^63-1/\∃m,m<n/\V m ((x.1.1,x.1.2.1++[b.1],x.1.2.2.1++[x.2.1],()),x.2.1+b.1,x.2.2.1+1,()) G)))) X) X)/\(¬x.2.2.1<l.length->((30:Int)<x.2.1->Q ({Aa:=[],Bits:=[],At:=[]:Ac},18,()) () H)/\(¬(30:Int)<x.2.1->Q ({Aa:=x.1.1,Bits:=x.1.2.1,At:=x.1.2.2.1:Ac},0,()) () H))))) X);refine U7 B F λH' f=>⟨λG=>qG rfl G,λ_ _ _ _=>⟨by omega,rfl,by omega,a7 _,λ_=>⟨λm z o=>o=H'/\m=l.length-z.2.2.1/\z.2.2.1<=l.length/\z.1.1=l/\z.1.2.1=(Ck l).take z.2.2.1/\z.1.2.2.1=(ND l).take z.2.2.1/\z.2.1=D0 (Ck l) z.2.2.1,⟨_,rfl,rfl,a7 _,?_,rfl,rfl,rfl⟩,?_⟩⟩⟩
 .simp
 rintro m ⟨⟨b,M,x,_⟩,a,i,_⟩ o ⟨p,t,s,n,g,j,r⟩;have K:o=H':=p;have S:m=l.length-i:=t;have I:i<=l.length:=s;have u:b=l:=n;have v:M=(Ck l).take i:=g;have y:x=(ND l).take i:=j;have R:a=D0 (Ck l) i:=r;subst K u v y R;have T:=Y3 (l:=b) I;refine⟨λd _=>?_,λd=>?_⟩
 .have d:i<b.length:=d;have w:=Rj b[i];refine⟨d,U8 (Aa1 w.2 λ_ k=>?_)⟩;have k:EC (BL b[i])<=31:=k;have N:((Ck b).take i).length=i:=by grind[au,Du]
  have P:((ND b).take i).length=i:=by grind[au,Lz]
  have E:(((Ck b).take i).length+1)*8<=140737488355328:=by omega
  have J:(((ND b).take i).length+1)*8<=140737488355328:=by omega
  have D:Bn .i64 (D0 (Ck b) i)->Bn .i64 (EC (BL b[i]):Int)->Bn .i64 (D0 (Ck b) i+(EC (BL b[i]):Int))/\i+1<=9223372036854775807/\∃A,A<m/\o=o/\A=b.length-(i+1)/\i+1<=b.length/\b=b/\(Ck b).take i++[(EC (BL b[i]):Int)]=(Ck b).take (i+1)/\(ND b).take i++[D0 (Ck b) i]=(ND b).take (i+1)/\D0 (Ck b) i+(EC (BL b[i]):Int)=D0 (Ck b) (i+1):=λ_ _=>by refine⟨A7.2 (by omega),by omega,b.length-(i+1),by omega,rfl,rfl,by omega,rfl,?_,?_,?_⟩;all_goals grind[a8,Du,Iy,Lz,Acg,Eo]
  grind[Sf]
 .have d:¬i<b.length:=d;have e:i=b.length:=by omega
  subst e;have O:(Ck b).take b.length=Ck b:=af (by grind[Du]);have L:(ND b).take b.length=ND b:=af (by grind[Lz]);refine⟨λq=>?_,λ_=>?_⟩
  .grind[D0,Ck,GC]
  .show Q ({Aa:=b,Bits:=(Ck b).take b.length,At:=(ND b).take b.length},0,()) () o;rw[O,L];exact h o f
theorem Ab2:CR (Dg l)=GC l:=by show D0 (Ck l) (Ck l).length=D0 (Ck l) l.length;rw[Du]
theorem Zv(c:OT l)(b:l.length<=64):Ku (Dg l):=by
 have a:∀i(h:i<l.length),BL l[i]=NF l[i]-E8 l[i]+1/\E8 l[i]<=NF l[i]/\NF l[i]-E8 l[i]<64/\-255<=E8 l[i]/\NF l[i]<=255:=λi h=>by
  have f:=c.ok i h;unfold BL NF E8;cases e:l[i].Bool with
  |true=>simp
  |false=>
   have:=f.nu e;grind
 have g:(2:Int)^6=64:=by decide
 refine {lb:=?_,la:=?_,ln:=b,b0:=λi h=>?_,at_:=λi h=>?_,fit:=λi h j=>?_}
 .exact Du
 .exact Lz
 .have h:i<(Ck l).length:=h;rw[Du]at h;show 0<=(Ck l)[i]'(by simp_all[Du])/\(Ck l)[i]'(by simp_all[Du])<=30;rw[Iy h];have:=(Sm (n:=BL l[i]) (m:=6) (by grind)).1;omega
 .have h:i<(ND l).length:=h;rw[Lz]at h;show (ND l)[i]'(by simp_all[Lz])=D0 (Ck l) i;exact Acg h
 .have h:i<l.length:=h;have s:=a i h;show E8 l[i]<=NF l[i]/\NF l[i]-E8 l[i]<2^((Ck l)[i]'(by grind[Du])).toNat/\-1152921504606846976<=E8 l[i]/\NF l[i]<=1152921504606846976;rw[Iy h];have:=(Sm (n:=BL l[i]) (m:=6) (by omega)).2.1;grind
end
section
theorem Awm{n:Int}(a:0<=n)(b:n<=64):GZ false (GZ true n [(.i64,0)]) [(.i64,64)]=n:=by show min (max n 0) 64=n;omega
variable {H:HY} {X:PX}
theorem PU{n:Int}{Q:List Int×Unit->UU}(r:0<=n)(u:n<=64)(h:∀l:List Int,l.length=n.toNat->(∀k(_:k<l.length),l[k]=(k:Int))->Q (l,()) () H):qK Nb KE (n,()) H Q X:=by
 refine wF Tryz.f152 {lp:=[(3,⟨[(3,.one (.own I6)),(11,.nat)],[3,10],false⟩)]} (?_:IK (GZ false (GZ true n [(.i64,0)]) [(.i64,64)])->IK (GZ false (GZ true n [(.i64,0)]) [(.i64,64)])->(0:Int)<=GZ false (GZ true n [(.i64,0)]) [(.i64,64)]/\GZ false (GZ true n [(.i64,0)]) [(.i64,64)]=GZ false (GZ true n [(.i64,0)]) [(.i64,64)]/\(GZ false (GZ true n [(.i64,0)]) [(.i64,64)]).toNat*8<=281474976710656/\((aa (GZ false (GZ true n [(.i64,(0:Int))]) [(.i64,(64:Int))]).toNat (0:Int)).length<=2^63-1->∃(V:Nat->List Int×Nat×UT->Prop),(∃(n1:Nat),H=H/\V n1 (aa (GZ false (GZ true n [(.i64,0)]) [(.i64,64)]).toNat (0:Int),0,()))/\∀n1 x,V n1 x->(x.2.1<(aa (GZ false (GZ true n [(.i64,0)]) [(.i64,64)]).toNat (0:Int)).length->x.2.1<=2^63-1->∃(h:x.2.1<x.1.length),x.2.1<x.1.length/\x.2.1+1<=2^63-1/\∃m,m<n1/\H=H/\V m (x.1.set x.2.1 (↑x.2.1:Int),x.2.1+1,()))/\(¬x.2.1<(aa (GZ false (GZ true n [(.i64,0)]) [(.i64,64)]).toNat (0:Int)).length->Q (x.1,()) () H)));have e:=Awm r u;simp only[e,List.length_replicate];refine λ_ _=>⟨r,trivial,by omega,λ_=>⟨λm z=>m=n.toNat-z.2.1/\z.2.1<=n.toNat/\z.1.length=n.toNat/\∀k(_:k<z.1.length),k<z.2.1->z.1[k]=(k:Int),⟨_,trivial,rfl,a7 _,by simp,λk _ s=>qG s (ac k)⟩,?_⟩⟩
 rintro m ⟨l,k,_⟩ ⟨b,i,g,d⟩;have v:m=n.toNat-k:=b;have s:k<=n.toNat:=i;have q:l.length=n.toNat:=g;have t:∀j(_:j<l.length),j<k->l[j]=(j:Int):=d;refine⟨λa _=>?_,λa=>?_⟩
 .have f:k<n.toNat:=a;refine⟨by grind,by grind,by omega,n.toNat-(k+1),by omega,trivial,rfl,by grind,by grind,λj o c=>?_⟩;grind
 grind
variable {room:Int} {Q:Option Nat×Int×Unit->UU}
theorem Aat(l:1<=room)(k:room<=1048576)(h:∀b x,H b=none->Fh x->x.room=room->x.at_.length=1->(∀i,FY x i=none)->Q (some b,0,()) () (Ab H b (.st CL x))):qK V7 Qt (room,()) H Q X:=by
 refine wF Tryz.f151 {pr:=[(14,6)]} (?_:(room<1->Q (none,2,()) () H)/\(¬room<1->((1048576:Int)<room->Q (none,2,()) () H)/\(¬(1048576:Int)<room->((0:Int)<=1/\(1:Int)=1/\a5 (1:Int)*40<=281474976710656/\(0:Int)<=1/\(1:Int)=1/\a5 (1:Int)*1<=281474976710656/\∀(b:Nat),H b=none->Q (some b,0,()) () (Ab H b (Ob.st CL {room:=room,at_:=aa (a5 (1:Int)) {ID:=0,Var:=0,Lo:=0,Hi:=0,Refs:=0:Au},taken:=aa (a5 (1:Int)) false,free:=[],many:=0:A6})))/\(0:Int)<=1/\(1:Int)=1/\a5 (1:Int)*1<=281474976710656/\(0:Int)<=1/\(1:Int)=1/\a5 (1:Int)*40<=281474976710656/\∀(b:Nat),H b=none->Q (some b,0,()) () (Ab H b (Ob.st CL {room:=room,at_:=aa (a5 (1:Int)) {ID:=0,Var:=0,Lo:=0,Hi:=0,Refs:=0:Au},taken:=aa (a5 (1:Int)) false,free:=[],many:=0:A6})))));have a:∀b,H b=none->Q (some b,0,()) () (Ab H b (.st CL {room:=room,at_:=aa (a5 (1:Int)) {ID:=(0:Int),Var:=(0:Int),Lo:=(0:Int),Hi:=(0:Int),Refs:=(0:Int):Au},taken:=aa (a5 (1:Int)) false,free:=[],many:=(0:Int):A6})):=λb m=>by
  have o:∀i,N8 {room:=room,at_:=aa (a5 (1:Int)) {ID:=(0:Int),Var:=(0:Int),Lo:=(0:Int),Hi:=(0:Int),Refs:=(0:Int):Au},taken:=aa (a5 (1:Int)) false,free:=[],many:=(0:Int):A6} i=false:=λi=>by grind[N8,decide]
  have f:∀i,FY {room:=room,at_:=aa (a5 (1:Int)) {ID:=(0:Int),Var:=(0:Int),Lo:=(0:Int),Hi:=(0:Int),Refs:=(0:Int):Au},taken:=aa (a5 (1:Int)) false,free:=[],many:=(0:Int):A6} i=none:=λi=>by grind[FY]
  refine h b _ m ⟨rfl,by simp,⟨l,k⟩,by grind,rfl,λi d=>qG d List.not_mem_nil,bh,rfl,λi d c=>?_,λi n e=>by grind⟩ rfl rfl f;grind
 grind
theorem Za{vars:Int}(hv:0<=vars/\vars<=64)(M:1<=room)(P:room<=1048576)(h:∀b S H',Ca H' b S->SI S->S.n=vars->S.po.room=room->(∀i,Ax S.po i=none)->(∀v,0<=v->v<vars->S.lv.vars[v.toNat]?=some v)->(∀i,EU S.po i=0)->(∀c,H c≠none->H' c=H c)->Q (some b,0,()) () H'):qK TJ NV (vars,room,()) H Q X:=by
 refine wF Tryz.f80 {lp:=[(8,⟨[(31,.nat)],[4,30],true⟩)],pr:=[(26,2),(29,3)],il:=ilT,oc:=[38]} (?_:(vars<0->Q (none,2,()) () H)/\(¬vars<0->((64:Int)<vars->Q (none,2,()) () H)/\(¬(64:Int)<vars->qK V7 Qt (room,()) H (λ(b:Option Nat×Int×UT)_ G=>(¬b.2.1=0->Q (none,b.2.1,()) () G)/\(¬¬b.2.1=0->qK Nb KE (vars,()) G (λ(b1:List Int×UT)_ G=>qK Nb KE (vars,()) G (λ(b2:List Int×UT)_ G=>∀(b3:Nat),G b3=none->∀(b4:Nat),Ab G b3 (Ob.st CG {vars:=b1.1,level:=b2.1:AN}) b4=none->∃(V:Nat->Nat×UT->HP),(∃(n:Nat),V n (0,()) (Ab (Ab G b3 (Ob.st CG {vars:=b1.1,level:=b2.1:AN})) b4 (Ob.st A8 {levels:=some b3,DZ:=b.1,tables:=[],counts:=[],dead:=0:Ah})))/\∀n x H,V n x H->((↑x.1:Int)<vars->(∃(x1:Ah),H b4=some (Ob.st A8 x1)/\∀(b:Nat),C0 H b4 b=none->Ab (C0 H b4) b (Ob.st BK {ids:=[]:Ay}) b4=none->(x1.tables.length+[some b].length)*8<=2^47/\x.1+1<=2^63-1/\∃m,m<n/\V m (x.1+1,()) (Ab (Hq (Ab (C0 H b4) b (Ob.st BK {ids:=[]:Ay})) b4 (H b4)) b4 (Ob.st A8 {x1 with tables:=x1.tables++[some b]})))/\∀(b:Nat),H b=none->(∃(x1:Ah),Ab H b (Ob.st BK {ids:=[]:Ay}) b4=some (Ob.st A8 x1)/\(x1.tables.length+[some b].length)*8<=2^47/\x.1+1<=2^63-1/\∃m,m<n/\V m (x.1+1,()) (Ab (Ab H b (Ob.st BK {ids:=[]:Ay})) b4 (Ob.st A8 {x1 with tables:=x1.tables++[some b]})))/\∃(x1:Ah),Ab H b (Ob.st BK {ids:=[]:Ay}) b4=some (Ob.st A8 x1)/\(x1.tables.length+[some b].length)*8<=2^47/\x.1+1<=2^63-1/\∃m,m<n/\V m (x.1+1,()) (Ab (Ab H b (Ob.st BK {ids:=[]:Ay})) b4 (Ob.st A8 {x1 with tables:=x1.tables++[some b]})))/\(¬(↑x.1:Int)<vars->Q (some b4,0,()) () H)) X) X)) X)));refine⟨λV=>by omega,λ_=>⟨λV=>by omega,λ_=>Aat M P λbp x hbp hP L hlen hnd=>⟨λh=>qG rfl h,λ_=>PU hv.1 hv.2 λlv hlv K=>PU hv.1 hv.2 λs hll hllk=>?_⟩⟩⟩;intro F I p t;have n3:F≠bp:=λe=>by rw[e,Ai]at I;cases I
 have n4:p≠F:=λe=>by rw[e,Ai]at t;cases t
 have n5:p≠bp:=λe=>by rw[e,Ag _ _ (Ne.symm n3),Ai]at t;cases t
 have z3:H F=none:=by rw[Ag _ _ n3]at I;exact I
 have z4:H p=none:=by rw[Ag _ _ n4,Ag _ _ n5]at t;exact t
 let st (tb:List Nat):Ah:={levels:=some F,DZ:=some bp,tables:=tb.map some,counts:=[],dead:=0}
 refine⟨λn z H'=>n=vars.toNat-z.1/\z.1<=vars.toNat/\∃tb:List Nat,tb.length=z.1/\H' p=some (.st A8 (st tb))/\H' F=some (.st CG ⟨lv,s⟩)/\H' bp=some (.st CL x)/\tb.Nodup/\(∀j(h:j<tb.length),H' tb[j]=some (.st BK ⟨[]⟩))/\∀c,H c≠none->H' c=H c,⟨_,rfl,a7 _,[],rfl,Ai _ _ _,?_,?_,bh,λj hj=>qG hj (ac j),λc y=>?_⟩,?_⟩
 .rw[Ag _ _ (Ne.symm n4),Ai]
 .rw[Ag _ _ (Ne.symm n5),Ag _ _ (Ne.symm n3),Ai]
 .rw[Ag _ _ (λe=>y (by rw[e];exact z4)),Ag _ _ (λe=>y (by rw[e];exact z3)),Ag _ _ (λe=>y (by rw[e];exact hbp))]
 rintro n ⟨k,_⟩ H' ⟨hn0,Z,tb,t1,Y,t3,t4,t5,t6,t7⟩;have hn:n=vars.toNat-k:=hn0;have hk:k<=vars.toNat:=Z;have t1:tb.length=k:=t1;refine⟨λN=>?_,λN=>?_⟩
 .have hkl':(k:Int)<vars:=N;have W:∀(b:Nat)(E:HY),H' b=none->E p=some (.st A8 (st (tb++[b])))->E b=some (.st BK ⟨[]⟩)->(∀c,c≠b->c≠p->E c=H' c)->∃m,m<n/\(m=vars.toNat-(k+1)/\k+1<=vars.toNat/\∃tb:List Nat,tb.length=k+1/\E p=some (.st A8 (st tb))/\E F=some (.st CG ⟨lv,s⟩)/\E bp=some (.st CL x)/\tb.Nodup/\(∀j(h:j<tb.length),E tb[j]=some (.st BK ⟨[]⟩))/\∀c,H c≠none->E c=H c):=λb E u e1 e2 e3=>by
   have ne:∀{c:Nat}{o:Ob Y0},H' c=some o->c≠b:=λy e=>by rw[e,u]at y;cases y
   refine⟨vars.toNat-(k+1),by omega,rfl,by omega,tb++[b],by simp [t1],e1,by rw[e3 _ (ne t3) (Ne.symm n4)];exact t3,by rw[e3 _ (ne t4) (Ne.symm n5)];exact t4,?_,λj hj=>?_,λc y=>?_⟩
   .rw[bn];refine⟨t5,by simp,λc y d f e=>?_⟩;rw[aj]at f;subst f;subst e;obtain⟨j,hj,e⟩:=am.1 y;exact ne (t6 j hj) e
   .by_cases G:j<tb.length
    .rw[List.getElem_append_left G,e3 _ (ne (t6 j G)) (Bg (t6 j G) Y (by decide))];exact t6 j G
    .have:j=tb.length:=by simp at hj;omega
     subst this;simpa using e2
   .have h2:=t7 c y;rw[e3 c (λe=>y (by rw[<-h2,e];exact u)) (λe=>y (by rw[e];exact z4))];exact h2
  have lenb:(tb.map some).length+1<=64:=by simp;omega
  have s0:∀b,st (tb++[b])={levels:=some F,DZ:=some bp,tables:=tb.map some++[some b],counts:=[],dead:=0}:=λb=>by show ({levels:=_,DZ:=_,tables:=(tb++[b]).map some,counts:=_,dead:=_}:Ah)=_;rw[ao];rfl
  refine⟨⟨st tb,Y,λb u hb2=>?_⟩,λb u=>?_⟩
  .have R:b≠p:=λe=>by rw[e,Ai]at hb2;cases hb2
   have hb':H' b=none:=by unfold C0 at u;rw[GT R]at u;exact u
   refine⟨by show ((tb.map some).length+1)*8<=_;omega,by show k+1<=_;omega,?_⟩;refine W b _ hb' (by rw[s0];exact Ai _ _ _) ?_ λc c1 c2=>?_
   .rw[Ag _ _ R];unfold Hq;rw[GT R,Ai]
   .rw[Ag _ _ c2];unfold Hq;rw[GT c2,Ag _ _ c1];unfold C0;rw[GT c2]
  .have R:b≠p:=λe=>by rw[e,Y]at u;cases u
   have U:∃(a:Ah),Ab H' b (Ob.st BK {ids:=[]:Ay}) p=some (Ob.st A8 a)/\(a.tables.length+[some b].length)*8<=140737488355328/\k+1<=9223372036854775807/\∃m,m<n/\(m=vars.toNat-(k+1)/\k+1<=vars.toNat/\∃tb:List Nat,tb.length=k+1/\Ab (Ab H' b (Ob.st BK {ids:=[]:Ay})) p (Ob.st A8 {a with tables:=a.tables++[some b]}) p=some (.st A8 (st tb))/\Ab (Ab H' b (Ob.st BK {ids:=[]:Ay})) p (Ob.st A8 {a with tables:=a.tables++[some b]}) F=some (.st CG ⟨lv,s⟩)/\Ab (Ab H' b (Ob.st BK {ids:=[]:Ay})) p (Ob.st A8 {a with tables:=a.tables++[some b]}) bp=some (.st CL x)/\tb.Nodup/\(∀j(h:j<tb.length),Ab (Ab H' b (Ob.st BK {ids:=[]:Ay})) p (Ob.st A8 {a with tables:=a.tables++[some b]}) tb[j]=some (.st BK ⟨[]⟩))/\∀c,H c≠none->Ab (Ab H' b (Ob.st BK {ids:=[]:Ay})) p (Ob.st A8 {a with tables:=a.tables++[some b]}) c=H c):=by
    refine⟨st tb,by rw[Ag _ _ (Ne.symm R)];exact Y,by show ((tb.map some).length+1)*8<=_;omega,by show k+1<=_;omega,?_⟩;refine W b _ u (by rw[s0];exact Ai _ _ _) ?_ λc c1 c2=>?_
    .rw[Ag _ _ R,Ai]
    .rw[Ag _ _ c2,Ag _ _ c1]
   exact⟨U,U⟩
 .have hkl':¬(k:Int)<vars:=N;have hke:k=vars.toNat:=by omega
  let S:B9:={bl:=F,bp:=bp,tb:=tb,lv:=⟨lv,s⟩,po:=x,ta:=λ_=>⟨[]⟩,cn:=[],dead:=0}
  have r:S.n=vars:=by show (tb.length:Int)=vars;omega
  have D:∀i,Ax x i=none:=λi=>by unfold Ax;rw[hnd];rfl
  have T:∀i,EU x i=0:=λi=>UL (D i);have q:∀v,0<=v->v<vars->Df ⟨lv,s⟩ v=v:=λv M P=>by
   unfold Df;have A:v.toNat<s.length:=by rw[hll];omega
   rw[UV M];show (s[v.toNat]?).getD (-1)=v;rw[a6 A,hllk _ A];show ((v.toNat:Nat):Int)=v;omega
  have C:∀{i d},Ax S.po i=some d->False:=λ{i d}f=>by rw[show Ax S.po i=none from D i]at f;cases f
  have hlvS:∀v,0<=v->v<vars->S.lv.vars[v.toNat]?=some v:=λv M P=>by
   have A:v.toNat<lv.length:=by rw[hlv];omega
   show lv[v.toNat]?=some v;rw[a6 A,K _ A];congr 1;omega
  have hsi:SI S:=by
   refine⟨⟨hP,⟨λf=>(C f).elim,λf=>(C f).elim,λf=>(C f).elim⟩,λi d f=>(C f).elim,?_⟩,⟨⟨by rw[r];exact hv.2,λv M P=>?_,λv w a1 a2 a3 a4 e=>?_⟩,λf=>(C f).elim,λf=>(C f).elim,λf=>(C f).elim,λf=>(C f).elim,λf=>(C f).elim,λf=>(C f).elim⟩,by show lv.length=tb.length;omega,by show s.length=tb.length;omega,λl v V=>?_,λv _=>bh,λv _ lo hi i=>⟨λh=>(by cases h),λh=>(C h).elim⟩,λi=>by rw[show EU S.po i=0 from T i];exact Int.le_refl _⟩
   .show (0:Int)=B.sm x.at_.length (B.zr (Ax x) (F1 []));rw[B.EN (g:=λ_=>0) λk _ _=>by unfold B.zr;rw[D],B.Um]
   .rw[r]at P;show 0<=Df ⟨lv,s⟩ v/\Df ⟨lv,s⟩ v<S.n;rw[q v M P,r];exact⟨M,P⟩
   .rw[r]at a2 a4;have e:Df ⟨lv,s⟩ v=Df ⟨lv,s⟩ w:=e;rw[q v a1 a2,q w a3 a4]at e;exact e
   .have V:lv[l]?=some v:=V;obtain⟨J,e⟩:=List.getElem?_eq_some_iff.1 V;rw[K l J]at e;have u:(l:Int)<vars:=by rw[hlv]at J;omega
    refine⟨by omega,by rw[r];omega,?_⟩;show Df ⟨lv,s⟩ v=l;rw[<-e];exact q _ (by omega) u
  exact h p S H' ⟨Y,t3,t4,t5,t6⟩ hsi r L D hlvS T t7
theorem Ajl{vars:Int}(G:0<=vars/\vars<=64)(I:1<=room)(A:room<=1048576)(h:∀b M H',Jr H' b M->MI M->MV M->M.ws=[]->M.S.n=vars->M.S.po.room=room->(∀i,M.T i=none)->(∀v,0<=v->v<vars->M.S.lv.vars[v.toNat]?=some v)->M.nx=2->M.hs.length=2->(∀g,M.Aq g=if g=0 then some (λ_=>false) else if g=1 then some (λ_=>true) else none)->(∀c,H c≠none->H' c=H c)->H b=none->Q (some b,0,()) () H'):qK VI Ro (vars,room,()) H Q X:=by
 refine wF Tryz.f33 {pr:=[(23,0)]} (?_:qK TJ NV (vars,room,()) H (λ(b:Option Nat×Int×UT)_ G=>(¬b.2.1=0->Q (none,b.2.1,()) () G)/\(¬¬b.2.1=0->qK VE Qw (4096,()) G (λ(b1:Option Nat×UT)_ G=>∀(b2:Nat),G b2=none->Q (some b2,0,()) () (Ab G b2 (Ob.st CP {store:=b.1,RA:=b1.1,Bs:=BR (BR [] 0 1) 1 0,EV:=2,waits:=[],calls:=0:Bc}))) X)) X);refine Za G I A λF S m E K D C t w x k=>⟨λh=>qG rfl h,λ_=>Ad5 _ _ _ _ ?_⟩
 unfold Vn;intro y q b p;have l:b≠y:=λe=>by rw[e,Ai]at p;cases p
 have d:m b=none:=by rw[Ag _ _ l]at p;exact p
 let me:B0:={size:=GZ false (GZ true 4096 [(.i64,1)]) [(.i64,65536)],entries:=none,asked:=0,found:=0}
 let M:Mn:={sb:=F,S:=S,mb:=y,me:=me,hs:=[(0,1),(1,0)],nx:=2,ws:=[],ca:=0}
 have f:∀c,m c≠none->Ab (Ab m y (.st BX me)) b (.st CP M.ob) c=m c:=λc j=>by rw[Ag _ _ (λe=>j (by rw[e];exact d)),Ag _ _ (λe=>j (by rw[e];exact q))]
 have r:MeI me:=⟨by show (1:Int)<=min (max 4096 1) 65536;decide,by show min (max (4096:Int) 1) 65536<=65536;decide,λJ u=>by cases u⟩
 have z:∀g,Ad M.hs g=if g=0 then some 1 else if g=1 then some 0 else none:=λg=>by
  show (if (0:Int)=g then some (1:Int) else if (1:Int)=g then some 0 else none)=_;by_cases n:g=0
  .subst n;rfl
  .rw[GT (Ne.symm n),GT n];by_cases s:g=1
   .subst s;rfl
   .rw[GT (Ne.symm s),GT s]
 refine h b M _ ⟨Ai _ _ _,E.KK f,by rw[Ag _ _ (Ne.symm l),Ai]⟩ ⟨K,?_,λg e a=>?_,rfl,rfl,(by show (2:Int)<=2;decide),λi L=>?_,(by show ((2:Nat):Int)<=2;decide)⟩ (MV.empty r λe⟨J,u,_⟩=>by cases u) rfl D C t w rfl rfl (λg=>?_) (λc j=>?_) ?_
 .show ([0,1]:List Int).Nodup;decide
 .rw[z]at a;split at a
  .rename_i n;cases a;exact⟨B.ok_one,by omega,by show g<2;omega⟩
  .split at a
   .cases a;exact⟨B.Pq,by omega,by show g<2;omega⟩
   .cases a
 .rw[show EU M.S.po i=0 from x i];show 0=B.dl 1 i+(B.dl 0 i+0);rw[B.K9 (by omega),B.K9 (by omega)];rfl
 .show (Ad M.hs g).map _=_;rw[z];split
  .show some (B.den M.T 1)=_;rw[B.EW]
  .split
   .show some (B.den M.T 0)=_;rw[B.HU]
   .rfl
 .have:=k c j;exact(f c (by rw[this];exact j)).trans this
 .cases e:H b with
  |none=>rfl
  |some o=>
   have:=k b (by rw[e];simp);rw[d,e]at this;cases this
end
section
structure Ayr(a:BH):Prop where
 v:OT a.Aa
 n:a.Aa.length<=8
 t:0<=GC a.Aa/\GC a.Aa<=4
 p:a.ED.length<=6
 e:Ahv (2*GC a.Aa) a.ED
 o:a.Order=[]∨Yj a.Order (2*GC a.Aa).toNat
theorem TW{l:List Int}{n:Int}{H:HY}{X:PX}{Q:Bool×Unit->UU}(a:0<=n)(b:n<=1000)(h:∀t:Bool,(t=true->Yj l n.toNat)->Q (t,()) () H):qK FN Ei (l,n,()) H Q X:=by obtain⟨m,rfl⟩:=ap a;grind[UQ]
theorem Apb{a:BH}{H:HY}{X:PX}{Q:Bool×Unit->UU}(y:a.Aa.length<=1000000000000000)(h:∀t:Bool,(t=true->Ayr a)->Q (t,()) () H):qK Jq FH (a,()) H Q X:=by
 refine wF Tryz.f8 {lp:=[(6,⟨[(6,.nat)],[1],false⟩)],im:=[1]} (?_:qK JV Gg (a.Aa,()) H (λ(b:Int×Int×UT)_ G=>qK FM Eh (a.Aa,()) G (λ(b1:Int×UT)_ G=>(¬b.2.1=0->Q (false,()) () G)/\(¬¬b.2.1=0->a.Aa.length<=2^63-1->(8<a.Aa.length->Q (false,()) () G)/\(¬8<a.Aa.length->((4:Int)<b1.1->Q (false,()) () G)/\(¬(4:Int)<b1.1->a.ED.length<=2^63-1->(6<a.ED.length->Q (false,()) () G)/\(¬6<a.ED.length->a.Order.length<=2^63-1->(0<a.Order.length->IK b1.1->IK (2*b1.1)/\qK FN Ei (a.Order,2*b1.1,()) G (λ(b:Bool×UT)_ G=>(¬b.1->Q (false,()) () G)/\(¬¬b.1->IK b1.1->IK (2*b1.1)/\qK G1 Ew (2*b1.1,0,a.ED,()) G (λ(b:Int×UT)_ G=>(¬b.1=0->Q (false,()) () G)/\(¬¬b.1=0->∃(V:Nat->Nat×UT->Prop),(∃(n:Nat),G=G/\V n (0,()))/\∀n x,V n x->a.ED.length<=2^63-1->(x.1<a.ED.length->x.1<=2^63-1->∃(h:x.1<a.ED.length),((300:Int)<a.ED[x.1].Eg->Q (false,()) () G)/\(¬(300:Int)<a.ED[x.1].Eg->x.1+1<=2^63-1/\∃m,m<n/\G=G/\V m (x.1+1,())))/\(¬x.1<a.ED.length->Q (true,()) () G))) X)) X)/\(¬0<a.Order.length->IK b1.1->IK (2*b1.1)/\qK G1 Ew (2*b1.1,0,a.ED,()) G (λ(b:Int×UT)_ G=>(¬b.1=0->Q (false,()) () G)/\(¬¬b.1=0->∃(V:Nat->Nat×UT->Prop),(∃(n:Nat),G=G/\V n (0,()))/\∀n x,V n x->a.ED.length<=2^63-1->(x.1<a.ED.length->x.1<=2^63-1->∃(h:x.1<a.ED.length),((300:Int)<a.ED[x.1].Eg->Q (false,()) () G)/\(¬(300:Int)<a.ED[x.1].Eg->x.1+1<=2^63-1/\∃m,m<n/\G=G/\V m (x.1+1,())))/\(¬x.1<a.ED.length->Q (true,()) () G))) X)))))) X) X);have c:Q (false,()) () H:=h false λe=>qG e (by decide);refine W9 λi e p=>PR y λw C=>⟨λ_=>c,λl _=>⟨λ_=>c,λs=>⟨λ_=>c,λu _=>⟨λ_=>c,λq _=>?_⟩⟩⟩⟩
 have p:=p (ab.1 l);have s:¬8<a.Aa.length:=s;have u:¬4<GC a.Aa:=u;have q:¬6<a.ED.length:=q;have n:Bn .i64 (2*GC a.Aa):=A7.2 (by omega);have j:(a.Order=[]∨Yj a.Order (2*GC a.Aa).toNat)->Ahv (2*GC a.Aa) a.ED->Q (true,()) () H:=λA d=>h true λ_=>⟨p,by omega,⟨w,by omega⟩,by omega,d,A⟩
 refine⟨λ_ _=>⟨n,?_⟩,λr _=>⟨n,PS (by omega) λe d=>⟨λ_=>c,λl=>⟨λm z=>m=a.ED.length-z.1/\z.1<=a.ED.length,⟨_,rfl,rfl,a7 _⟩,?_⟩⟩⟩⟩
 .refine TW (by omega) (by omega) λt v=>⟨λ_=>c,λo _=>⟨n,PS (by omega) λe d=>⟨λ_=>c,λl=>⟨λm z=>m=a.ED.length-z.1/\z.1<=a.ED.length,⟨_,rfl,rfl,a7 _⟩,?_⟩⟩⟩⟩
  have d:=d (ab.1 l);rintro m ⟨k,_⟩ ⟨f,g⟩;have B:m=a.ED.length-k:=f;have x:k<=a.ED.length:=g;refine λ_=>⟨λb _=>⟨b,λ_=>c,λ_=>⟨by grind,a.ED.length-(k+1),by omega,rfl,rfl,b⟩⟩,λ_=>j (.inr (v (ab.1 o))) d⟩
 .have d:=d (ab.1 l);rintro m ⟨k,_⟩ ⟨f,g⟩;have B:m=a.ED.length-k:=f;have x:k<=a.ED.length:=g;have r:¬0<a.Order.length:=r;refine λ_=>⟨λb _=>⟨b,λ_=>c,λ_=>⟨by grind,a.ED.length-(k+1),by omega,rfl,rfl,b⟩⟩,λ_=>j (.inl (b9.1 (by omega))) d⟩
mutual
def DV:Ae->Nat
 |⟨_,_,_,ks⟩=>1+GG ks
def GG:List Ae->Nat
 | []=>0
 |t::ts=>DV t+GG ts
end
theorem ML(t:Ae):DV t=1+GG t.qZ:=by cases t;rw[DV]
theorem DR(t:Ae)(ts:List Ae):GG (t::ts)=DV t+GG ts:=by rw[GG]
theorem JS:GG []=0:=by rw[GG]
theorem ZU(l m:List Ae):GG (l++m)=GG l+GG m:=by
 induction l with
 |nil=>simp[JS,Nat.zero_add]
 |cons t l a=>rw[List.cons_append,DR,DR,a];omega
theorem Pb(t:Ae):1<=DV t:=by rw[ML];omega
theorem Xm{l:List Ae}{i:Nat}(h:i<l.length):GG (l.take (i+1))=GG (l.take i)+DV l[i]:=by grind[a8,ZU,DR,JS]
theorem Aqc{l:List Ae}(i:Nat):GG (l.take i)<=GG l:=by grind[ZU,List.take_append_drop]
theorem Rg:∀(l:List Ae),l.length<=GG l
 | []=>a7 _
 |t::l=>by have:=Rg l;have:=Pb t;rw[DR,ai];omega
theorem An4:∀(n:Nat)(t:Ae){most:Int}{H:HY}{X:PX}{Q:Int×Unit->UU},SizeOf.sizeOf t<n->-1<=most->most<=30->(∀r:Int,-1<=r->r<=30->(0<=r->r+DV t<=most+1)->Q (r,()) () H)->qK EI DD (t,most,()) H Q X
 |0,_,_,_,_,_,q,_,_,_=>qG q (ac _)
 |n+1,t,most,H,X,Q,q,s,w,h=>by
  apply P9;unfold Kx;rw[ML]at h;refine⟨λm z=>m=t.qZ.length-z.2.1/\z.2.1<=t.qZ.length/\-1<=z.1/\z.1<=30/\(0<=z.1->z.1+GG (t.qZ.take z.2.1)<=most),⟨_,rfl,rfl,a7 _,s,w,λ_=>by grind[GG,JS]⟩,?_⟩;rintro m ⟨x,k,_⟩ ⟨l,p,i,e,c⟩;have E:m=t.qZ.length-k:=l;have B:k<=t.qZ.length:=p;have g:-1<=x:=i;have f:x<=30:=e;have d:0<=x->x+GG (t.qZ.take k)<=most:=c;refine λ_=>⟨λa=>⟨λb _=>?_,λb=>h x g f λj=>qG j b⟩,λa=>h x g f λj=>?_⟩
  .have a:k<t.qZ.length:=a;have b:0<=x:=b;have o:SizeOf.sizeOf t.qZ[k]<n:=by
    have j:=List.sizeOf_lt_of_mem (ak a);have C:SizeOf.sizeOf t.qZ<SizeOf.sizeOf t:=by cases t;grind
    omega
   refine⟨a,λ_=>⟨A7.2 (by omega),An4 n _ o (by omega) (by omega) λr A u y=>⟨by grind,t.qZ.length-(k+1),by omega,rfl,rfl,by grind,A,u,λv=>?_⟩⟩⟩;grind[DV,Xm,GG]
  grind
structure A1k(M:Mn)(n:Int):Prop where
 n:M.S.n=n
 nx:M.nx=2
 ln:M.hs.length=2
variable {H:HY} {X:PX}
theorem As9{vars room:Int}{Q:Option Nat×Int×Unit->UU}(j:0<=vars/\vars<=64)(q:1<=room)(k:room<=1048576)(h:∀b M H',ArS b M H' M H'->M.ws=[]->M.S.po.room=room->A1k M vars->(∀p∈M.hs,p.2/2=0)->(∀c,H c≠none->H' c=H c)->H b=none->Q (some b,0,()) () H'):qK VI Ro (vars,room,()) H Q X:=by
 refine Ajl j q k λb M H' r a l i n m t _ s o _ f v=>h b M H' ⟨r,a,l,t,.refl,rfl,.refl⟩ i m ⟨n,s,o⟩ (λp g=>?_) f v;have u:=(a.ok p.1 p.2 (Gz a.nd g)).1;rcases u.2 with e|⟨d,e⟩
 all_goals grind
theorem Acn{a:BH}{Q:Option Nat×Ac×Bool×Unit->UU}(s:Ayr a)(h:∀b M H',Jr H' b M->MI M->MV M->M.ws=a.ED->M.S.po.room=1048576->A1k M (2*GC a.Aa)->Q (some b,Dg a.Aa,true,()) () H'):qK FO Ej (a,()) H Q X:=by
 refine wF Tryz.f11 {im:=[1]} (?_:qK Ab1 UK (a.Aa,()) H (λ(b:Ac×Int×UT)_ G=>qK FM Eh (a.Aa,()) G (λ(b1:Int×UT)_ G=>IK b1.1->IK (2*b1.1)/\qK VI Ro (2*b1.1,1048576,()) G (λ(b2:Option Nat×Int×UT)_ G=>(b2.1=none->Q (b2.1,b.1,false,()) () G)/\(¬b2.1=none->(¬b.2.1=0->Q (b2.1,b.1,false,()) () G)/\(¬¬b.2.1=0->(¬b2.2.1=0->Q (b2.1,b.1,false,()) () G)/\(¬¬b2.2.1=0->qK Iu EO (b2.1,a.Order,()) G (λ(b3:Bool×UT)_ G=>(¬b3.1->Q (b2.1,b.1,false,()) () G)/\(¬¬b3.1->dup (qK Qa LP (b2.1,a.ED,()) G (λ(b4:Int×UT)_ G=>Q (b2.1,b.1,decide (b4.1=0),()) () G) X))) X)))) X) X) X);have st:=s.t;have L:=s.n;refine Ajk s.v (by omega) (by omega) λK I=>PR (by omega) λ_ _ _=>⟨A7.2 (by omega),As9 (by omega) (by decide) (by decide) λb M G A ws D n v J N=>⟨λg=>qG g (by simp),λ_=>⟨λg=>qG rfl g,λ_=>⟨λg=>qG rfl g,λ_=>?_⟩⟩⟩⟩
 have k:M.S.n=2*GC a.Aa:=n.n;refine Aet A v (by rw[n.nx];decide) (by rw[k];exact s.o) λj o d=>⟨λg=>qG rfl g,λ_=>Sf ?_⟩
 have y:j.S.n=2*GC a.Aa:=d.kp.n.trans k;refine Abb d.mn d.mi s.p (by rw[d.ws,ws];decide) (by rw[y];exact s.e) λi f=>?_;have p:MI i:=by rw[f];exact⟨d.mi.si,d.mi.nd,d.mi.ok,d.mi.k0,d.mi.k1,d.mi.nx,d.mi.rf,d.mi.ln⟩
 have t:MV i:=by rw[f];exact⟨d.mv.me,λe E C B=>let q:=d.mv.en e E C B;⟨q.of,q.og,q.oh,q.or,q.den,q.lev⟩⟩
 have l:o b=some (.st CP j.ob):=d.mn.ob;have u:∀{c m:Nat}{x:Y0.O m},o c=some (.st m x)->m≠CP->c≠b:=λv z=>Bg v l z;have r:Jr (Ab o b (.st CP i.ob)) b i:=by
  have w:Jr (Ab o b (.st CP i.ob)) b {j with ws:=j.ws++a.ED,ca:=i.ca}:=by
   refine⟨?_,d.mn.st.other l (by decide) (by decide) (by decide) (by decide),?_⟩
   .rw[Ai];congr 2;rw[f]
   .rw[Ag _ _ (u d.mn.me (by decide))];exact d.mn.me
  grind
 refine h b i _ r p t ?_ ?_ ⟨?_,?_,?_⟩
 .rw[f];show j.ws++a.ED=a.ED;rw[d.ws,ws];rfl
 .rw[f];exact d.kp.room.trans D
 .grind
 .rw[f];exact d.kp.nx.trans n.nx
 .rw[f];show j.hs.length=2;rw[d.kp.hs];exact n.ln
theorem YI{v:Nat}{Q:Int×Unit->UU}(f:v<=30)(h:Q (2^v,()) () H):qK K3 Hj ((v:Int),()) H Q X:=by
 refine wF Tryz.f120 {lp:=[(3,⟨[(3,.one (.dat I6)),(4,.nat)],[0],false⟩)]} (?_:∃(V:Nat->Int×Nat×UT->Prop),(∃(n:Nat),H=H/\V n (1,0,()))/\∀n x,V n x->((↑x.2.1:Int)<(v:Int)->IK x.1->IK (2*x.1)/\x.2.1+1<=2^63-1/\∃m,m<n/\H=H/\V m (2*x.1,x.2.1+1,()))/\(¬(↑x.2.1:Int)<(v:Int)->Q (x.1,()) () H));refine⟨λm z=>m=v-z.2.1/\z.2.1<=v/\z.1=2^z.2.1,⟨_,rfl,rfl,a7 _,rfl⟩,?_⟩;rintro m ⟨x,k,_⟩ ⟨b,d,c⟩;have j:m=v-k:=b;have i:k<=v:=d;have e:x=2^k:=c;have g:(2:Int)^k<=1073741824/\0<=(2:Int)^k:=by have:(2:Nat)^k<=2^30:=al (by omega) (by omega);grind
 refine⟨λa _=>?_,λa=>?_⟩
 .have a:(k:Int)<(v:Int):=a;refine⟨A7.2 (by omega),by grind,v-(k+1),by omega,rfl,rfl,by grind,?_⟩;show 2*x=2^(k+1);rw[e,Int.pow_succ,Int.mul_comm]
 grind
theorem UO{i v:Nat}{Q:Bool×Unit->UU}(hi:i<=1000000)(e:v<=30)(h:Q (decide (i/2^v%2=1),()) () H):qK Jp FG ((i:Int),(v:Int),()) H Q X:=by
 refine wF Tryz.f51 {} (?_:qK K3 Hj ((v:Int),()) H (λ(b:Int×UT)_ G=>IK (i:Int)->IK b.1->¬b.1=0/\IK ((i:Int).tdiv b.1)/\(IK ((i:Int).tdiv b.1)->¬(2:Int)=0/\IK (((i:Int).tdiv b.1).tmod 2)/\Q (decide (((i:Int).tdiv b.1).tmod (2:Int)=1),()) () G)) X);have d:0<2^v:=Nat.pow_pos (by omega);have a:((i:Int)).tdiv (2^v)=((i/2^v:Nat):Int):=by rfl
 have f:i/2^v<=i:=bt _ _;have b:(((i/2^v:Nat):Int)).tmod 2=((i/2^v%2:Nat):Int):=(Int.ofNat_tmod (i/2^v) 2).symm;refine YI e λ_ _=>⟨?_,?_,λ_=>⟨by decide,?_,?_⟩⟩
 .grind
 .grind[Bn,A7]
 .grind[Bn,Nat.mod_lt,A7]
 .show Q (decide ((((i:Int)).tdiv (2^v)).tmod 2=1),()) () H;have:decide ((((i:Int)).tdiv (2^v)).tmod 2=1)=decide (i/2^v%2=1):=by grind
  grind
def asN(n k:Nat):B.As:=λv=>((ar n).map λ(u:Nat)=>decide (k/2^u%2=1)).getD v.toNat false
theorem A06{n k u:Nat}(h:u<n):asN n k (u:Int)=decide (k/2^u%2=1):=by grind[asN]
theorem Ao2{b:Nat}{M:Mn}{g:Int}{k:Nat}{F:B.Fn}{Q:Bool×Unit->UU}(p:Jr H b M)(q:MI M)(t:M.Aq g=some F)(y:M.S.n<=8)(s:k<=1000000)(h:Q (F (asN M.S.n.toNat k),()) () H):qK Fv DX (some b,g,(k:Int),()) H Q X:=by
 refine wF Tryz.f17 {lp:=[(3,⟨[(7,.one (.own .bool)),(8,.nat)],[0,1,2],true⟩)]} (?_:KV (some b) g (k:Int) H Q X);unfold KV;have x:=@B9.Ko M.S;refine⟨λm z r=>r=H/\m=M.S.n.toNat-z.2.1/\z.2.1<=M.S.n.toNat/\z.1=(ar z.2.1).map λ(u:Nat)=>decide (k/2^u%2=1),⟨_,rfl,rfl,a7 _,rfl⟩,?_⟩;rintro m ⟨l,v,_⟩ r ⟨rfl,d,j,f⟩;have A:m=M.S.n.toNat-v:=d;have w:v<=M.S.n.toNat:=j;have n:l=(ar v).map λ(u:Nat)=>decide (k/2^u%2=1):=f;have o:l.length=v:=by grind
 refine L7 p q ⟨λa=>?_,λa=>?_⟩
 .have a:(v:Int)<M.S.n:=a;refine UO s (by omega) ⟨by grind,by grind,M.S.n.toNat-(v+1),by omega,rfl,rfl,by grind,?_⟩;show l++[_]=(ar (v+1)).map _;rw[List.range_succ,ao,n];rfl
 .have a:¬(v:Int)<M.S.n:=a;have i:v=M.S.n.toNat:=by omega
  refine Abd p q t (by grind) ?_;have e:(λv:Int=>l.getD v.toNat false)=asN M.S.n.toNat k:=by unfold asN;rw[n,i]
  grind
end
section
def nmE:ByteArray:={data:={toList:=[]:Array UInt8}:ByteArray}
def nmN:ByteArray:={data:={toList:=[(110:UInt8)]:Array UInt8}:ByteArray}
def N3:Ar:={qJ:=nmN,Bool:=false,Lo:=(0:Int),Hi:=(2:Int):Ar}
def trN:Ae:={Op:=(3:Int),N:=(0:Int),qJ:=nmN,qZ:=[]:Ae}
def tr1:Ae:={Op:=(1:Int),N:=(1:Int),qJ:=nmE,qZ:=[]:Ae}
def trL:Ae:={Op:=(14:Int),N:=(0:Int),qJ:=nmE,qZ:=[trN,tr1]:Ae}
theorem Amt:¬nmN={data:={toList:=[]:Array UInt8}:ByteArray}:=Afs.2 (by decide)
theorem Re(t:Ae):Ae.mk t.Op t.N t.qJ t.qZ=t:=by cases t;rfl
variable {H:HY} {X:PX}
theorem RJ{op:Int}{Q:Int×Int×Unit->UU}(a:op=1∨op=3)(h:Q (0,0,()) () H):qK IP GI (op,()) H Q X:=by
 refine wF Tryz.f219 {} (?_:GF op H Q X);unfold GF;rcases a with e|e<;>subst e <;>
 repeat' first
  |exact h
  |(intro b;exact qG b (by decide))
  |refine⟨?_,?_⟩
  |intro _
theorem Abm{Q:Int×Int×Unit->UU}(h:Q (2,2,()) () H):qK IP GI (14,()) H Q X:=by grind[Yz,GF]
def Ao7(t:Ae):Prop:=∀(H:HY)(X:PX)(Q:Int×Unit->UU),Q (0,()) () H->qK JK Hw (t,()) H Q X
theorem Ap3:Ao7 trN:=by
 intro H X Q h;apply LI;unfold FA;refine RJ (.inr rfl) ?_;repeat' first
  |exact h
  |(intro a;exact qG a Amt)
  |(intro a;exact qG Amt a)
  |(intro a;exact qG a (by decide))
  |refine⟨?_,?_⟩
  |intro _
theorem Ap5:Ao7 tr1:=by
 intro H X Q h;apply LI;unfold FA;refine RJ (.inl rfl) ?_;repeat' first
  |exact h
  |(intro a;exact qG (show nmE=nmE from rfl) a)
  |(intro a;exact qG a (by decide))
  |refine⟨?_,?_⟩
  |intro _
theorem Ap4:Ao7 trL:=by
 intro H X Q h;apply LI;unfold FA;refine Abm ?_;repeat' first
  |exact h
  |(intro a;exact qG (show nmE=nmE from rfl) a)
  |(intro a;exact qG a (by decide))
  |refine⟨?_,?_⟩
  |intro _
def CkP:Nat->Int->Ae->Prop
 |0,_,_=>False
 |f+1,deep,t=>deep<=64/\Ao7 t/\t.qZ.length<=64/\∀k∈t.qZ,CkP f (deep+1) k
def CkN:Nat->Nat
 |0=>0
 |f+1=>1+64*CkN f
abbrev CkC(n w:Nat):FT Y0 [.u 3,.int .i64] [.bool]:=λ(a:Ae×Int×Unit)(H:HY)(Q:Bool×Unit->HP)(X:Nat->Lf Y0.D->HP)=>qK F7 Ep (a.1,a.2.1,some n,some w,()) H (λ(b:Bool×Unit)(_:Unit)(H':HY)=>Q (b.1,()) H') X
variable {t:Ae}
theorem Asq{deep x y:Int}{n w:Nat}{Q:Bool×Unit->UU}(c:Ao7 t)(g:deep<=64)(f:0<=x/\x+1<=4096)(a:n≠w)(e:H n=some (.st Ba x))(d:H w=some (.st Ba y))(h:Q (true,()) () (Ab (Ab H n (.st Ba (x+1))) w (.st Ba (0:Int)))):qK F7 Ep (t,deep,some n,some w,()) H Q X:=by refine wF Tryz.f165 {im:=[4]} (?_:HN t deep (some n) (some w) H Q X);unfold HN;refine⟨n,rfl,x,e,λ_=>⟨A7.2 (by omega),λb=>qG b (by omega),λ_=>c _ _ _ ⟨w,rfl,y,by simp_all[Ag,Ne.symm],λ_=>⟨x+1,by grind[Ag,Ai],λb=>qG b (by omega),λ_=>⟨rfl,0,Ai _ _ _,rfl,h⟩⟩,λb=>qG rfl b⟩⟩⟩
theorem Afg{n w:Nat}(d:n≠w):∀(f:Nat)(a:Int)(t:Ae)(x:Int){H:HY}{X:PX}{Q:Bool×Unit->UU},CkP f a t->0<=a->H n=some (.st Ba x)->H w=some (.st Ba (0:Int))->0<=x->x+(CkN f:Int)<=4096->(∀H' x',x<=x'->x'<=x+(CkN f:Int)->H' n=some (.st Ba x')->H' w=some (.st Ba (0:Int))->(∀c,c≠n->c≠w->H' c=H c)->Q (true,()) () H')->qK Fw Ex (t,a,CkC n w,()) H Q X
 |0,_,_,_,_,_,_,h,_,_,_,_,_,_=>h.elim
 |f+1,a,t,x,H,X,Q,⟨F,J,W,K⟩,V,G,I,D,E,h=>by
  apply Rb;unfold MK;have O:(CkN (f+1):Int)=1+64*(CkN f:Int):=by rfl
  rw[O]at E h;refine Asq J F ⟨D,by omega⟩ d G I ⟨λo=>qG rfl o,λ_ _=>⟨λm z H'=>m=t.qZ.length-z.1/\z.1<=t.qZ.length/\∃x',x<=x'/\x'<=x+1+(z.1:Int)*(CkN f:Int)/\H' n=some (.st Ba x')/\H' w=some (.st Ba (0:Int))/\∀c,c≠n->c≠w->H' c=H c,⟨_,rfl,a7 _,x+1,by omega,by simp,by grind[Ag,Ai],Ai _ _ _,λc i g=>by rw[Ag _ _ g,Ag _ _ i]⟩,?_⟩⟩;rintro m ⟨k,_⟩ H' ⟨j,r,x',q,e,u,y,A⟩;have U:m=t.qZ.length-k:=j;have P:k<=t.qZ.length:=r;have B:x'<=x+1+(k:Int)*(CkN f:Int):=e;have v:(k:Int)*(CkN f:Int)<=64*(CkN f:Int):=ae (by omega) (by omega);refine⟨λb _=>?_,λ_=>h H' x' q (by omega) u y A⟩;have b:k<t.qZ.length:=b;refine⟨b,λ_=>⟨A7.2 (by omega),?_⟩⟩;have p:((k+1:Nat):Int)*(CkN f:Int)=(k:Int)*(CkN f:Int)+(CkN f:Int):=by rw[show ((k+1:Nat):Int)=(k:Int)+1 by omega,Int.add_mul,Int.one_mul]
  have l:((k+1:Nat):Int)*(CkN f:Int)<=64*(CkN f:Int):=ae (by omega) (by omega);show qK Fw Ex (Ae.mk t.qZ[k].Op t.qZ[k].N t.qZ[k].qJ t.qZ[k].qZ,a+1,CkC n w,()) H' _ X;rw[Re];refine Afg d f (a+1) t.qZ[k] x' (K _ (ak b)) (by omega) u y (by omega) (by omega) λR s T S L C M=>⟨λo=>qG rfl o,λ_=>⟨by grind,t.qZ.length-(k+1),by omega,rfl,by grind,s,by omega,?_,L,C,λc i g=>(M c i g).trans (A c i g)⟩⟩
  grind
theorem Apl{f:Nat}{Q:Int×Unit->UU}(m:CkP f 1 t)(q:CkN f<=4096)(h:∀H',(∀c,H c≠none->H' c=H c)->Q (0,()) () H'):qK Md JD (t,()) H Q X:=by
 refine wF Tryz.f90 {pr:=[(3,8),(4,8)],im:=[1]} (?_:JA t H Q X);unfold JA;intro w l n d;have a:n≠w:=λe=>by grind[Ai]
 have j:H n=none:=by grind[Ag]
 refine⟨0,by rw[Ag _ _ (Ne.symm a),Ai],0,by rw[Ag _ _ a,Ai],?_⟩;refine Afg a f 1 t 0 m (by decide) (Ai _ _ _) (by rw[Ag _ _ (Ne.symm a),Ai]) (Int.le_refl _) (by omega) λH' p _ _ _ o k=>⟨0,o,rfl,h H' λc b=>?_⟩
 have i:c≠n:=λe=>b (by grind);have g:c≠w:=λe=>b (by grind);rw[k c i g,Ag _ _ i,Ag _ _ g,Ag _ _ i,Ag _ _ g]
theorem A5i:CkP 2 1 trL:=by
 refine⟨by decide,Ap4,by decide,λk a=>?_⟩;rcases List.mem_cons.1 a with e|a
 .rw[e];exact⟨by decide,Ap3,by decide,λk a=>by cases a⟩
 .rw[aj.1 a];exact⟨by decide,Ap5,by decide,λk a=>by cases a⟩
def Ta:List (ByteArray×Int):=[(nmN,0)]
theorem Amx{Q:List (ByteArray×Int)×Unit->UU}(h:Q (Ta,()) () H):qK Mc JC ([N3],()) H Q X:=by
 refine wF Tryz.f92 {lp:=[(3,⟨[(3,.map .str I6),(11,.nat)],[9,10],false⟩)]} (?_:J9 [N3] H Q X);unfold J9;refine λ_=>⟨λm z=>(m=1/\z.1=[]/\z.2.1=0)∨(m=0/\z.1=Ta/\z.2.1=1),⟨_,rfl,.inl ⟨rfl,rfl,rfl⟩⟩,?_⟩
 rintro m ⟨d,k,_⟩ e;rcases e with ⟨f,a,b⟩|⟨f,a,b⟩
 .have a:d=[]:=a;have b:k=0:=b;subst a b;refine⟨λ_ _=>⟨by omega,λ_=>⟨by omega,0,by omega,rfl,.inr ⟨rfl,rfl,rfl⟩⟩,λc=>qG (show ¬(Ad ([]:List (ByteArray×Int)) nmN).isSome=true by simp [Ad]) c⟩,λc=>qG (show 0<1 by decide) c⟩
 .have a:d=Ta:=a;have b:k=1:=b;subst a b;exact⟨λc=>qG c (by show ¬1<1;decide),λ_=>h⟩
theorem Y6{lo hi:Int}{Q:Af×Int×Unit->UU}(e:-1048576<=lo)(d:hi<=1048576)(c:lo<=hi)(b:hi-lo<=4096)(h:Q ({Bool:=false,Lo:=lo,Hi:=hi:Af},0,()) () H):qK Bz Br (lo,hi,()) H Q X:=by grind[Yy,KB,A7]
theorem Awq:Ad Ta nmN=some 0:=by simp [Ad,Ta]
variable {Q:Af×Int×Unit->List (ByteArray×Int)×Unit->HP}
theorem Avu(h:Q ({Bool:=false,Lo:=1,Hi:=1:Af},0,()) (Ta,()) H):qK GR Fj ([N3],Ta,tr1,true,[],()) H Q X:=by refine wF Tryz.f167 {im:=[7]} (?_:Ev [N3] Ta tr1 true [] H Q X);unfold Ev;exact⟨λ_=>Y6 (by decide) (by decide) (by decide) (by decide) h,λa=>qG rfl a⟩
theorem Avs(h:Q ({Bool:=false,Lo:=0,Hi:=2:Af},0,()) (Ta,()) H):qK GR Fj ([N3],Ta,trN,true,[],()) H Q X:=by
 refine wF Tryz.f167 {im:=[7]} (?_:Ev [N3] Ta trN true [] H Q X);unfold Ev;have e:Ad Ta trN.qJ=some 0:=Awq;rw[e];have a:qK Bz Br (N3.Lo,N3.Hi,()) H (λ(b:Af×Int×Unit)(f:Unit)(d:HY)=>Q (b.1,b.2.1,()) (Ta,()) d) X:=Y6 (by decide) (by decide) (by decide) (by decide) h;repeat' first
  |exact a
  |(intro c;exact qG c (by decide))
  |refine⟨?_,?_⟩
  |intro _
  |decide
theorem Avt(h:Q ({Bool:=false,Lo:=1,Hi:=3:Af},0,()) (Ta,()) H):qK GR Fj ([N3],Ta,trL,true,[{Bool:=false,Lo:=0,Hi:=2:Af},{Bool:=false,Lo:=1,Hi:=1:Af}],()) H Q X:=by
 refine wF Tryz.f167 {im:=[7]} (?_:Ev [N3] Ta trL true [{Bool:=false,Lo:=0,Hi:=2:Af},{Bool:=false,Lo:=1,Hi:=1:Af}] H Q X);unfold Ev;have a:qK GQ EP ((14:Int),{Bool:=false,Lo:=0,Hi:=2:Af},{Bool:=false,Lo:=1,Hi:=1:Af},()) H (λ(b:Af×Int×Unit)(f:Unit)(d:HY)=>Q (b.1,b.2.1,()) (Ta,()) d) X:=by apply SL;unfold GD;exact⟨λc=>qG c (by decide),λ_=>⟨λ_ _ _=>⟨A7.2 (by decide),λ_ _=>⟨A7.2 (by decide),Y6 (by decide) (by decide) (by decide) (by decide) h⟩⟩,λc=>qG rfl c⟩⟩
 repeat' first
  |exact a
  |(intro e;exact qG e (by decide))
  |refine⟨?_,?_⟩
  |intro _
  |decide
def As5(t:Ae)(ty:Af):Prop:=∀(H:HY)(X:PX)(Q:Af×Int×Unit->List (ByteArray×Int)×Unit->HP),Q (ty,0,()) (Ta,()) H->qK DP Dy ([N3],Ta,t,true,()) H Q X
theorem Afi{ty:Af}(f:t.qZ=[])(e:∀(H:HY)(X:PX)(Q:Af×Int×Unit->List (ByteArray×Int)×Unit->HP),Q (ty,0,()) (Ta,()) H->qK GR Fj ([N3],Ta,t,true,[],()) H Q X):As5 t ty:=by
 intro H X Q h;apply LJ;unfold J8;refine λ_=>⟨λm z=>z.1=Ta/\z.2.2.1=[]/\z.2.2.2.1=0,⟨0,rfl,rfl,rfl,rfl⟩,?_⟩
 rintro m ⟨g,i,l,k,_⟩ ⟨a,b,c⟩;have a:g=Ta:=a;have b:l=[]:=b;have c:k=0:=c;subst a b c;exact⟨λd=>qG d (by grind),λ_=>e _ _ _ h⟩
theorem A20:As5 trN {Bool:=false,Lo:=0,Hi:=2:Af}:=Afi rfl λ_ _ _ h=>Avs h
theorem A22:As5 tr1 {Bool:=false,Lo:=1,Hi:=1:Af}:=Afi rfl λ_ _ _ h=>Avu h
theorem A21:As5 trL {Bool:=false,Lo:=1,Hi:=3:Af}:=by
 intro H X Q h;apply LJ;unfold J8;refine λ_=>⟨λm z=>m=2-z.2.2.2.1/\z.1=Ta/\((z.2.2.2.1=0/\z.2.2.1=[])∨(z.2.2.2.1=1/\z.2.2.1=[{Bool:=false,Lo:=0,Hi:=2:Af}])∨(z.2.2.2.1=2/\z.2.2.1=[{Bool:=false,Lo:=0,Hi:=2:Af},{Bool:=false,Lo:=1,Hi:=1:Af}])),⟨_,rfl,rfl,rfl,.inl ⟨rfl,rfl⟩⟩,?_⟩
 rintro m ⟨g,i,l,k,_⟩ ⟨f,e,d⟩;have e:g=Ta:=e;subst e;rcases d with ⟨a,b⟩|⟨a,b⟩|⟨a,b⟩
 .have a:k=0:=a;have b:l=[]:=b;subst a b;refine⟨λ_ _=>⟨by omega,?_⟩,λc=>qG (show 0<2 by decide) c⟩;show qK DP Dy ([N3],Ta,trN,true,()) H _ X;exact A20 _ _ _ ⟨λc=>qG rfl c,λ_=>⟨by simp,by simp,1,by omega,rfl,rfl,rfl,.inr (.inl ⟨rfl,rfl⟩)⟩⟩
 .have a:k=1:=a;have b:l=[{Bool:=false,Lo:=0,Hi:=2:Af}]:=b;subst a b;refine⟨λ_ _=>⟨by omega,?_⟩,λc=>qG (show 1<2 by decide) c⟩;show qK DP Dy ([N3],Ta,tr1,true,()) H _ X;exact A22 _ _ _ ⟨λc=>qG rfl c,λ_=>⟨by simp,by simp,0,by omega,rfl,rfl,rfl,.inr (.inr ⟨rfl,rfl⟩)⟩⟩
 .have a:k=2:=a;have b:l=[{Bool:=false,Lo:=0,Hi:=2:Af},{Bool:=false,Lo:=1,Hi:=1:Af}]:=b;subst a b;exact⟨λc=>qG c (by show ¬2<2;decide),λ_=>Avt h⟩
theorem Ayq{Q:Af×Int×Unit->UU}(h:∀H',(∀c,H c≠none->H' c=H c)->Q ({Bool:=false,Lo:=1,Hi:=3:Af},0,()) () H'):qK Fx Ey ([N3],trL,true,()) H Q X:=by refine wF Tryz.f41 {im:=[4]} (?_:KC [N3] trL true H Q X);unfold KC;exact Apl A5i (by decide) λH' f=>⟨λa=>qG rfl a,λ_=>Amx (A21 _ _ _ (h H' f))⟩
end
end Go.Proofs.YtcbkbpjlbmalmaaGreatDoor
