/-
  The store: Swap. (Merged by program out of 5 texts.)
-/
import Derived.Test.YtcbkbpjlbmalmaaGreatDoorpam
import Derived.Test.YtcbkbpjlbmalmaaGreatDoorpat
namespace Go.B
section
theorem Ap7{f:Int->Int}:∀{m:Nat},0<sm m f->∃k:Int,0<=k/\k<m/\0<f k
 |0,h=>by simp [sm]at h
 |m+1,h=>by
  by_cases hm:0<f m
  .exact⟨m,by omega,by omega,hm⟩
  .have h1:sm (m+1) f=sm m f+f m:=rfl;obtain⟨k,a,b,c⟩:=Ap7 (f:=f) (m:=m) (by omega);exact⟨k,a,by omega,c⟩
theorem A4e{N:Tb}{c:Int->Int}{i p:Int}(h:0<pt N c i p):∃d,N p=some d/\0<c p/\(i=d.lo/2∨i=d.hi/2):=by
 unfold pt at h;split at h
 .rename_i d hd;split at h
  .rename_i hc;refine⟨d,hd,hc,?_⟩;unfold mu dl at h;by_cases h1:d.lo/2=i
   .exact .inl h1.symm
   .by_cases h2:d.hi/2=i
    .exact .inr h2.symm
    .rw[if_neg h1,if_neg h2]at h;omega
  .omega
 .omega
section
variable {n:Int} {lv:Int->Int} {N:Tb} {m:Nat} {c r:Int->Int}
variable {i:Int} {d:Nd}
theorem Cn.why(h:Cn N m c r)(hd:N i=some d)(hc:0<c i):0<r i∨∃p dp,N p=some dp/\0<c p/\(i=dp.lo/2∨i=dp.hi/2):=by
 have h1:=h.eq hd;by_cases hr:0<r i
 .exact .inl hr
 .obtain⟨p,_,_,h2⟩:=Ap7 (f:=pt N c i) (m:=m) (by omega);obtain⟨dp,a,b,e⟩:=A4e h2;exact .inr ⟨p,dp,a,b,e⟩
theorem Good.par(g:Good n lv N){p:Int}{dp:Nd}(hd:N i=some d)(hp:N p=some dp)(h:i=dp.lo/2∨i=dp.hi/2):lv dp.v<lv d.v:=by
 have h0:=(g.var hd).1;rcases h with e|e
 .have:=(g.lo hp).2;rwa [Bz (by omega) (by rw[<-e];exact hd)]at this
 .have:=(g.hi hp).2;rwa [Bz (by omega) (by rw[<-e];exact hd)]at this
theorem Good.node2(g:Good n lv N)(hd:N i=some d):2*i/2=i/\Ok N (2*i)/\el n lv N (2*i)=lv d.v:=by
 have h0:=(g.var hd).1;have h2:2*i/2=i:=by omega
 exact⟨h2,⟨by omega,.inr ⟨d,by rw[h2];exact hd⟩⟩,Bz (by omega) (by rw[h2];exact hd)⟩
theorem Cn.A6i(g:Good n lv N)(hn:0<=n)(h:Cn N m c r)(hl:∀i d,N i=some d->0<c i){R:List Fn}(hR:∀i d,N i=some d->0<r i->∃f∈R,∃s:Bool,∀a,den N (2*i) a=(s ^^ f a)):Aat n lv N R:=by
 have key:∀(k:Nat)i d,N i=some d->lv d.v<k->∃f∈R,Cof lv (lv d.v) f (den N (2*i)):=by
  intro k;induction k with
  |zero=>intro i d hd hk;have:=g.var hd;have:=g.od.rng _ this.2.1 this.2.2;omega
  |succ k ih=>
   intro i d hd hk;obtain⟨h2,hok,hel⟩:=g.node2 hd;have dep:=g.dep hok (k:=lv d.v) (by omega);rcases h.why hd (hl i d hd) with hr|⟨p,dp,hp,_,hc⟩
   .obtain⟨f,hf,s,hs⟩:=hR i d hd hr;refine⟨f,hf,s,λ_=>false,λa=>?_⟩;rw[<-hs];exact dep _ _ λv _ _ h2=>(if_neg (by omega)).symm
   .have hlt:=g.par hd hp hc;obtain⟨f,hf,hcof⟩:=ih p dp hp (by omega);obtain⟨p2,pok,pel⟩:=g.node2 hp;have hp0:=(g.var hp).1;refine⟨f,hf,?_⟩;have one:∀(b:Bool)(e:Int),e=(if b=true then dp.hi else dp.lo)->i=e/2->Ok N e->Cof lv (lv d.v) f (den N (2*i)):=λb e he hi hoe=>by
     have h3:Cof lv (lv d.v) f (den N e):=hcof.set (v:=dp.v) (c:=b) hlt (Int.le_refl _) (λa=>by rw[g.cof hn (e:=2*p) (by omega) (by rw[p2];exact hp) b a,<-he];simp) (g.dep hoe (by rw[Bz (by have:=(g.var hd).1;omega) (by rw[<-hi];exact hd)];exact Int.le_refl _))
     have hd2:den N (2*i)=λa=>(decide (e%2=1)) ^^ den N e a:=by
      have h4:2*i=fl e e:=by
       unfold fl flip;split
       .rename_i h5;rw[if_neg (by omega)];omega
       .omega
      funext a;rw[h4,N6 hoe]
     rw[hd2];exact h3.sign _
    rcases hc with e|e
    .exact one false dp.lo rfl e (g.lo hp).1
    .exact one true dp.hi rfl e (g.hi hp).1
 intro i d hd;have hv:=g.var hd;have:=g.od.rng _ hv.2.1 hv.2.2;exact .inr (key (lv d.v+1).toNat i d hd (by omega))
theorem Cn.A1g(g:Good n lv N)(h:Cn N m c r)(hl:∀i d,N i=some d->0<c i){M:Tb}{m':Nat}{c' r':Int->Int}(h':Cn M m' c' r')(hr:∀i,0<=r i)(hrr:∀i,r i<=r' i){a:Int}(hs:∀i d,N i=some d->lv d.v<a->M i=some d):∀(k:Nat)i d d',N i=some d->lv d.v<=a->lv d.v<k->M i=some d'->0<c' i:=by
 intro k;induction k with
 |zero=>intro i d _ hd _ hk;have:=g.var hd;have:=g.od.rng _ this.2.1 this.2.2;omega
 |succ k ih=>
  intro i d d' hd ha hk hd';rcases h.why hd (hl i d hd) with hr0|⟨p,dp,hp,_,hc⟩
  .have:=h'.ge hd';have:=hrr i;omega
  .have hlt:=g.par hd hp hc;have hpM:=hs p dp hp (by omega);exact h'.kid (λ{i _}_=>Int.le_trans (hr i) (hrr i)) hpM (ih p dp dp hp (by omega) (by omega) hpM) hd' hc
theorem Cn.set(h:Cn N m c r){p:Int}{d':Nd}(hp:N p=some d)(hc:0<c p):Cn (λj=>if j=p then some d' else N j) m c (λi=>r i+mu d i-mu d' i)/\sm m (zr (λj=>if j=p then some d' else N j) c)=sm m (zr N c):=by
 have hdom:=h.dom hp;have of:∀{i e},(if i=p then some d' else N i)=some e->∃e',N i=some e':=λ{i e}hi=>by
  split at hi
  .rename_i e;exact⟨d,by rw[e];exact hp⟩
  .exact⟨e,hi⟩
 have hpt:∀i,sm m (pt (λj=>if j=p then some d' else N j) c i)=sm m (pt N c i)+(mu d' i-mu d i):=λi=>by rw[Ada (f:=pt (λj=>if j=p then some d' else N j) c i) (g:=pt N c i) (Int.le_of_lt hdom.1) hdom.2 λk hk=>by unfold pt;simp only[hk,if_false]];congr 1;unfold pt;simp only[hp,hc,if_true]
 refine⟨⟨λhi=>?_,λhi=>?_,λ{i e}hi=>?_⟩,Il λk _ _=>?_⟩
 .obtain⟨_,h1⟩:=of hi;exact h.dom h1
 .obtain⟨_,h1⟩:=of hi;exact h.nn h1
 .obtain⟨_,h1⟩:=of hi;rw[hpt,h.eq h1];omega
 .unfold zr;by_cases e:k=p
  .subst e;simp only[if_true,hp]
  .simp only[e,if_false]
end
def Tn(N:Tb)(x y i:Int)(d:Nd):Prop:=N i=some d/\d.v=x/\(isV N y d.lo∨isV N y d.hi)
structure Mix(n:Int)(lv:Int->Int)(N:Tb)(x y:Int)(D:Int->Prop)(M:Tb):Prop where
 stay:∀{i d},N i=some d->¬(Tn N x y i d/\D i)->M i=some d
 Aa4:∀{i d},Tn N x y i d->D i->∃lo hi,M i=some ⟨y,lo,hi⟩/\Bel M x (sp N y d.lo).1 (sp N y d.hi).1 lo/\Bel M x (sp N y d.lo).2 (sp N y d.hi).2 hi
 new:∀{i d},N i=none->M i=some d->0<i/\d.v=x/\Ok N d.lo/\Ok N d.hi/\lv y<el n lv N d.lo/\lv y<el n lv N d.hi/\d.lo≠d.hi/\d.hi%2=0
 uni:∀{i j d},d.v=x->M i=some d->M j=some d->i=j
section
variable {n:Int} {lv:Int->Int} {N:Tb} {x y:Int} {D:Int->Prop} {M:Tb}
theorem Mix.swp(h:Mix n lv N x y D M)(hD:∀{i d},Tn N x y i d->D i):Swp n lv N x y M where
 stay hd hc:=h.stay hd λ⟨k,_⟩=>hc k.2
 Aa4 hd h1 h2:=h.Aa4 ⟨hd,h1,h2⟩ (hD ⟨hd,h1,h2⟩)
 new:=h.new
 uni:=h.uni
theorem Mix.start(g:Good n lv N):Mix n lv N x y (λ_=>False) N where
 stay hd _:=hd
 Aa4 _ h:=h.elim
 new h k:=by rw[h]at k;cases k
 uni _ h k:=g.uni h k
variable {i:Int} {d:Nd}
theorem Mix.dom(h:Mix n lv N x y D M)(hd:N i=some d):∃d',M i=some d'/\(d'=d∨(d.v=x/\d'.v=y)):=by
 by_cases hc:Tn N x y i d/\D i
 .obtain⟨lo,hi,h1,_⟩:=h.Aa4 hc.1 hc.2;exact⟨_,h1,.inr ⟨hc.1.2.1,rfl⟩⟩
 .exact⟨d,h.stay hd hc,.inl rfl⟩
variable {e:Int}
theorem Mix.ok(h:Mix n lv N x y D M)(he:Ok N e):Ok M e:=⟨he.1,he.2.imp id λ⟨_,hd⟩=>by obtain⟨d',h1,_⟩:=h.dom hd;exact⟨d',h1⟩⟩
theorem Mix.Abo(g:Good n lv N)(hxy:lv y=lv x+1)(h:Mix n lv N x y D M)(he:Ok N e)(hl:lv y<el n lv N e)(hd:M (e/2)=some d):d.v≠x:=by
 by_cases h0:e/2=0
 .rw[h0]at hd;cases hz:N 0 with
  |some d0=>have:=(g.var hz).1;omega
  |none=>exact absurd (h.new hz hd).1 (by omega)
 .obtain⟨d0,hd0⟩:=he.2.resolve_left h0;rw[Bz h0 hd0]at hl;obtain⟨d',h1,h2⟩:=h.dom hd0;rw[hd]at h1;cases h1;rcases h2 with rfl|⟨h2,_⟩
  .intro e;rw[e]at hl;omega
  .rw[h2]at hl;omega
theorem Good.four(g:Good n lv N)(hn:0<=n)(hy:0<=y/\y<n)(hxy:lv y=lv x+1)(hd:N i=some d)(hv:d.v=x):(∀k,k=d.lo∨k=d.hi->Ok N (sp N y k).1/\Ok N (sp N y k).2/\lv y<el n lv N (sp N y k).1/\lv y<el n lv N (sp N y k).2/\∀a,den N k a=if a y=true then den N (sp N y k).2 a else den N (sp N y k).1 a):=by
 intro k hk;obtain⟨l1,l2⟩:=g.lo hd;obtain⟨u1,u2⟩:=g.hi hd;rw[hv]at l2 u2;have hok:Ok N k/\lv y<=el n lv N k:=by
  rcases hk with rfl|rfl
  .exact⟨l1,by omega⟩
  .exact⟨u1,by omega⟩
 obtain⟨a1,a2,a3,a4,a5,_⟩:=g.Nl hn hy hok.1 hok.2;exact⟨a1,a2,a3,a4,a5⟩
theorem Good.Ap4(g:Good n lv N)(hn:0<=n){f:Int}(he:Ok N e)(hf:Ok N f)(de:∀a,den N e a=if a y=true then den N (sp N y e).2 a else den N (sp N y e).1 a)(df:∀a,den N f a=if a y=true then den N (sp N y f).2 a else den N (sp N y f).1 a)(h1:(sp N y e).1=(sp N y f).1)(h2:(sp N y e).2=(sp N y f).2):e=f:=
 g.eq hn he hf (by funext a;rw[de,df,h1,h2])
theorem Mix.A83(g:Good n lv N)(hn:0<=n)(hx:0<=x/\x<n)(hy:0<=y/\y<n)(hxy:lv y=lv x+1)(h:Mix n lv N x y D M)(hi:Tn N x y i d)(hD:¬D i){lo hh:Int}(b1:Bel M x (sp N y d.lo).1 (sp N y d.hi).1 lo)(b2:Bel M x (sp N y d.lo).2 (sp N y d.hi).2 hh)(j:Int):M j≠some ⟨y,lo,hh⟩:=by
 intro hj;have hne:x≠y:=λe=>by rw[e]at hxy;omega
 obtain⟨hd,hv,hc⟩:=hi;have fl:=g.four hn hy hxy hd hv _ (.inl rfl);have fh:=g.four hn hy hxy hd hv _ (.inr rfl);cases hN:N j with
 |none=>exact hne (h.new hN hj).2.1.symm
 |some dj=>
  by_cases hcj:Tn N x y j dj/\D j
  .obtain⟨lo',hi',h1,k1,k2⟩:=h.Aa4 hcj.1 hcj.2;rw[hj]at h1;injection h1 with h1
   obtain⟨rfl,rfl⟩:lo=lo'/\hh=hi':=⟨congrArg Nd.lo h1,congrArg Nd.hi h1⟩
   obtain⟨hdj,hvj,_⟩:=hcj.1;have kl:=g.four hn hy hxy hdj hvj _ (.inl rfl);have kh:=g.four hn hy hxy hdj hvj _ (.inr rfl);obtain⟨e1,e2⟩:=b1.inj k1 (λ_=>h.Abo g hxy fl.1 fl.2.2.1) (λ_=>h.Abo g hxy kl.1 kl.2.2.1);obtain⟨e3,e4⟩:=b2.inj k2 (λ_=>h.Abo g hxy fl.2.1 fl.2.2.2.1) (λ_=>h.Abo g hxy kl.2.1 kl.2.2.2.1);have e5:d.lo=dj.lo:=g.Ap4 hn (g.lo hd).1 (g.lo hdj).1 fl.2.2.2.2 kl.2.2.2.2 e1 e3;have e6:d.hi=dj.hi:=g.Ap4 hn (g.hi hd).1 (g.hi hdj).1 fh.2.2.2.2 kh.2.2.2.2 e2 e4;have e7:d=dj:=by cases d;cases dj;simp only at e5 e6 hv hvj;subst hv;subst e5;subst e6;rw[hvj]
   rw[<-e7]at hdj;exact hD (by rw[g.uni hd hdj];exact hcj.2)
  .have h1:=h.stay hN hcj;rw[hj]at h1;injection h1 with h1
   have hjl:=g.lo hN;have hjh:=g.hi hN;rw[<-h1]at hjl hjh;simp only at hjl hjh;have nx:∀{a b e:Int},Ok N e->lv y<el n lv N e->Bel M x a b e->a=b/\e=a:=λ{a b e}he hl hb=>by
    rcases hb with hb|⟨_,_,_,_,h5⟩
    .exact hb
    .exact absurd rfl (h.Abo g hxy he hl h5)
   have n1:=nx hjl.1 hjl.2 b1;have n2:=nx hjh.1 hjh.2 b2;exact g.ne hd (g.Ap4 hn (g.lo hd).1 (g.hi hd).1 fl.2.2.2.2 fh.2.2.2.2 n1.1 n2.1)
noncomputable def mrk(lv:Int->Int)(N:Tb)(x y i:Int):Int:=open Classical in match N i with
 |some d=>if d.v=x then (if isV N y d.lo∨isV N y d.hi then 3*lv x else 3*lv x+2) else if d.v=y then 3*lv x+1 else 3*lv d.v
 |none=>3*lv x+2
theorem Mix.dag(g:Good n lv N)(hn:0<=n)(hx:0<=x/\x<n)(hy:0<=y/\y<n)(hxy:lv y=lv x+1)(h:Mix n lv N x y D M):Dag M (mrk lv N x y) (3*n):=by
 have hne:x≠y:=λe=>by rw[e]at hxy;omega
 have rx:=g.od.rng x hx.1 hx.2;have ry:=g.od.rng y hy.1 hy.2;have rN:∀{i d},N i=some d->0<=lv d.v/\lv d.v<n:=λhd=>g.od.rng _ (g.var hd).2.1 (g.var hd).2.2;have lev:∀{i d},N i=some d->d.v≠x->d.v≠y->lv d.v<lv x∨lv y<lv d.v:=λ{i d}hd a b=>by have hv:=(g.var hd).2;have h5:lv d.v≠lv x:=λe=>a (g.od.inj _ _ hv.1 hv.2 hx.1 hx.2 e);have h6:lv d.v≠lv y:=λe=>b (g.od.inj _ _ hv.1 hv.2 hy.1 hy.2 e);omega
 have low:∀{e},Ok N e->lv y<el n lv N e->e/2≠0->3*lv x+6<=mrk lv N x y (e/2):=λ{e}he hl h0=>by obtain⟨d,hd⟩:=he.2.resolve_left h0;rw[Bz h0 hd]at hl;unfold mrk;rw[hd];simp only;rw[if_neg (λe=>by rw[e]at hl;omega),if_neg (λe=>by rw[e]at hl;omega)];omega
 have mrng:∀i,(∃d,M i=some d)->0<=mrk lv N x y i/\mrk lv N x y i<3*n:=λi⟨d,hi⟩=>by
  unfold mrk;cases hd:N i with
  |none=>simp only;omega
  |some d=>have:=rN hd;simp only;split<;>(try split)<;>(try split)<;>omega
 have stay:∀{i d e},N i=some d->¬(Tn N x y i d/\D i)->Ok N e->lv d.v<el n lv N e->(isV N y e->isV N y d.lo∨isV N y d.hi)->e/2≠0->mrk lv N x y i<mrk lv N x y (e/2):=λ{i d e}hd hs he hl hy0 h0=>by
  obtain⟨d',hd'⟩:=he.2.resolve_left h0;rw[Bz h0 hd']at hl;have r1:=rN hd;unfold mrk;rw[hd,hd'];simp only;have l1:d.v≠x->d.v≠y->_:=lev hd;have l2:d'.v≠x->d'.v≠y->_:=lev hd';by_cases a1:d.v=x
  .rw[a1]at hl;have a2:d'.v≠x:=λe=>by rw[e]at hl;omega
   rw[if_pos a1,if_neg a2];by_cases a3:d'.v=y
   .rw[if_pos a3,if_pos (hy0 ⟨d',hd',a3⟩)];omega
   .rw[if_neg a3];have:=l2 a2 a3;split<;>omega
  .rw[if_neg a1];by_cases b1:d.v=y
   .rw[b1]at hl;have a2:d'.v≠x:=λe=>by rw[e]at hl;omega
    have a3:d'.v≠y:=λe=>by rw[e]at hl;omega
    rw[if_pos b1,if_neg a2,if_neg a3];have:=l2 a2 a3;omega
   .have:=l1 a1 b1;rw[if_neg b1];by_cases a2:d'.v=x
    .rw[a2]at hl;rw[if_pos a2];split<;>omega
    .rw[if_neg a2];by_cases a3:d'.v=y
     .rw[a3]at hl;rw[if_pos a3];omega
     .rw[if_neg a3];omega
 have xrk:∀{j d},M j=some d->d.v=x->Ok N d.lo->lv y<el n lv N d.lo->Ok N d.hi->lv y<el n lv N d.hi->mrk lv N x y j=3*lv x+2:=λ{j d}hj hv h1 h2 h3 h4=>by
  unfold mrk;cases hd:N j with
  |none=>rfl
  |some d0=>
   simp only;by_cases hc:Tn N x y j d0/\D j
   .obtain⟨_,_,k,_⟩:=h.Aa4 hc.1 hc.2;rw[hj]at k;cases k;exact absurd hv.symm hne
   .have:=h.stay hd hc;rw[hj]at this;cases this;have no:∀e,Ok N e->lv y<el n lv N e->¬isV N y e:=λe he hl⟨dy,hy1,hy2⟩=>by
     by_cases h0:e/2=0
     .rw[h0,g.zero]at hy1;cases hy1
     .rw[Bz h0 hy1,hy2]at hl;omega
    rw[if_pos hv,if_neg (λo=>o.elim (no _ h1 h2) (no _ h3 h4))]
 have bel:∀{a b e i},Ok N a->Ok N b->lv y<el n lv N a->lv y<el n lv N b->Bel M x a b e->mrk lv N x y i=3*lv x->Ok M e/\(e/2≠0->mrk lv N x y i<mrk lv N x y (e/2)):=λ{a b e i}ha hb la lb hB hi=>by
  rcases hB with ⟨h1,rfl⟩|⟨h1,h2,h3,h4,h5⟩
  .exact⟨h.ok ha,λh0=>by have:=low ha la h0;omega⟩
  .refine⟨⟨h2,.inr ⟨_,h5⟩⟩,λ_=>?_⟩;rw[hi,xrk h5 rfl ha.fl (by rw[Qv];exact la) hb.fl (by rw[Qv];exact lb)];omega
 have both:∀{i d'},M i=some d'->(Ok M d'.lo/\(d'.lo/2≠0->mrk lv N x y i<mrk lv N x y (d'.lo/2)))/\(Ok M d'.hi/\(d'.hi/2≠0->mrk lv N x y i<mrk lv N x y (d'.hi/2))):=λ{i d'}hi=>by
  cases hd:N i with
  |none=>
   obtain⟨h1,h2,h3,h4,h5,h6,_⟩:=h.new hd hi;have e:=xrk hi h2 h3 h5 h4 h6;exact⟨⟨h.ok h3,λh0=>by have:=low h3 h5 h0;omega⟩,h.ok h4,λh0=>by have:=low h4 h6 h0;omega⟩
  |some d=>
   by_cases hc:Tn N x y i d/\D i
   .obtain⟨lo,hh,h1,k1,k2⟩:=h.Aa4 hc.1 hc.2;rw[hi]at h1;cases h1;have ri:mrk lv N x y i=3*lv x:=by unfold mrk;rw[hd];simp only;rw[if_pos hc.1.2.1,if_pos hc.1.2.2]
    have fl:=g.four hn hy hxy hd hc.1.2.1 _ (.inl rfl);have fh:=g.four hn hy hxy hd hc.1.2.1 _ (.inr rfl);exact⟨bel fl.1 fh.1 fl.2.2.1 fh.2.2.1 k1 ri,bel fl.2.1 fh.2.1 fl.2.2.2.1 fh.2.2.2.1 k2 ri⟩
   .have:=h.stay hd hc;rw[hi]at this;cases this;obtain⟨l1,l2⟩:=g.lo hd;obtain⟨u1,u2⟩:=g.hi hd;exact⟨⟨h.ok l1,stay hd hc l1 l2 .inl⟩,h.ok u1,stay hd hc u1 u2 .inr⟩
 exact⟨λhi=>mrng _ ⟨_,hi⟩,λhi=>(both hi).1,λhi=>(both hi).2⟩
theorem Bel.ext{M':Tb}(hM:∀j d,M j=some d->M' j=some d){a b:Int}(h:Bel M x a b e):Bel M' x a b e:=by
 rcases h with h|⟨h1,h2,h3,h4,h5⟩
 .exact .inl h
 .exact .inr ⟨h1,h2,h3,h4,hM _ _ h5⟩
theorem noY(g:Good n lv N)(hl:lv y<el n lv N e):¬isV N y e:=λ⟨dy,h1,h2⟩=>by
 by_cases h0:e/2=0
 .rw[h0,g.zero]at h1;cases h1
 .rw[Bz h0 h1,h2]at hl;omega
theorem Mix.add(g:Good n lv N)(h:Mix n lv N x y D M){a b:Int}(hi0:0<i)(hf:M i=none)(ha:Ok N a)(hb:Ok N b)(la:lv y<el n lv N a)(lb:lv y<el n lv N b)(hab:a≠b)(hreg:b%2=0)(hno:∀j,M j≠some ⟨x,a,b⟩):Mix n lv N x y D (Oa M i ⟨x,a,b⟩):=by
 have ext:=Acv (d:=⟨x,a,b⟩) hf;refine⟨λhd hc=>ext _ _ (h.stay hd hc),λht hD=>?_,λ{j d}hn hd=>?_,λ{j k d}hv h1 h2=>?_⟩
 .obtain⟨lo,hi,h1,h2,h3⟩:=h.Aa4 ht hD;exact⟨lo,hi,ext _ _ h1,h2.ext ext,h3.ext ext⟩
 .unfold Oa at hd;split at hd
  .rename_i e;cases hd;subst e;exact⟨hi0,rfl,ha,hb,la,lb,hab,hreg⟩
  .exact h.new hn hd
 .unfold Oa at h1 h2;split at h1
  .rename_i e1;cases h1;split at h2
   .rename_i e2;rw[e1,e2]
   .exact absurd h2 (hno _)
  .split at h2
   .cases h2;exact absurd h1 (hno _)
   .exact h.uni hv h1 h2
theorem Mix.set(g:Good n lv N)(hn:0<=n)(hx:0<=x/\x<n)(hy:0<=y/\y<n)(hxy:lv y=lv x+1)(h:Mix n lv N x y D M)(hi:Tn N x y i d)(hD:¬D i){lo hh:Int}(b1:Bel M x (sp N y d.lo).1 (sp N y d.hi).1 lo)(b2:Bel M x (sp N y d.lo).2 (sp N y d.hi).2 hh):Mix n lv N x y (λj=>D j∨j=i) (λj=>if j=i then some ⟨y,lo,hh⟩ else M j):=by
 have hne:x≠y:=λe=>by rw[e]at hxy;omega
 have hMi:=h.stay hi.1 (λk=>hD k.2);have Cq:∀{a b e:Int},lv y<el n lv N a->lv y<el n lv N b->Bel M x a b e->Bel (λj=>if j=i then some ⟨y,lo,hh⟩ else M j) x a b e:=λ{a b e}la lb hB=>by
  rcases hB with hB|⟨h1,h2,h3,h4,h5⟩
  .exact .inl hB
  .refine .inr ⟨h1,h2,h3,h4,?_⟩;show (if e/2=i then _ else M (e/2))=_;rw[if_neg λe1=>?_]
   .exact h5
   .rw[e1,hMi]at h5;injection h5 with h5
    have e2:d.lo=fl a b:=congrArg Nd.lo h5;have e3:d.hi=fl b b:=congrArg Nd.hi h5;rcases hi.2.2 with k|k
    .rw[e2]at k;exact noY g (by rw[Qv];exact la) k
    .rw[e3]at k;exact noY g (by rw[Qv];exact lb) k
 refine⟨λ{j dj}hd hc=>?_,λ{j dj}ht hDj=>?_,λ{j dj}h0 hd=>?_,λ{j k dj}hv h1 h2=>?_⟩
 .have hj:j≠i:=λe=>hc (by subst e;rw[hi.1]at hd;cases hd;exact⟨hi,.inr rfl⟩);show (if j=i then _ else M j)=_;rw[if_neg hj];exact h.stay hd λ⟨k1,k2⟩=>hc ⟨k1,.inl k2⟩
 .have fl:=g.four hn hy hxy ht.1 ht.2.1 _ (.inl rfl);have fh:=g.four hn hy hxy ht.1 ht.2.1 _ (.inr rfl);by_cases hj:j=i
  .subst hj;have e:=ht.1.symm.trans hi.1;injection e with e
   subst e;exact⟨lo,hh,if_pos rfl,Cq fl.2.2.1 fh.2.2.1 b1,Cq fl.2.2.2.1 fh.2.2.2.1 b2⟩
  .obtain⟨lo',hi',h1,h2,h3⟩:=h.Aa4 ht (hDj.resolve_right hj);refine⟨lo',hi',?_,Cq fl.2.2.1 fh.2.2.1 h2,Cq fl.2.2.2.1 fh.2.2.2.1 h3⟩;show (if j=i then _ else M j)=_;rw[if_neg hj];exact h1
 .have hj:j≠i:=λe=>by subst e;rw[hi.1]at h0;cases h0
  have hd:(if j=i then _ else M j)=some dj:=hd;rw[if_neg hj]at hd;exact h.new h0 hd
 .have ne:∀{q},(if q=i then some ⟨y,lo,hh⟩ else M q)=some dj->M q=some dj:=λ{q}hq=>by
   split at hq
   .cases hq;exact absurd hv (Ne.symm hne)
   .exact hq
  exact h.uni hv (ne h1) (ne h2)
end
end
end Go.B
namespace Go.Proofs.YtcbkbpjlbmalmaaGreatDoor
open Go Go.X Go.Y
section
section
variable {κ β:Type} [DecidableEq κ]
theorem Rn{k:κ}{v:β}:∀{m:List (κ×β)},Ac m k=none->(C4 m k v).length=m.length+1
 | [],_=>rfl
 |p::m,h=>by
  have h:(if p.1=k then some p.2 else Ac m k)=none:=h;split at h
  .cases h
  .rename_i hp;unfold C4;rw[if_neg hp,List.length_cons,Rn h,List.length_cons]
theorem Agt{k:κ}{v:β}:∀{m:List (κ×β)}{p:κ×β},p∈C4 m k v->p∈m∨p.2=v
 | [],p,h=>by have h:p∈[(k,v)]:=h;rw[List.mem_singleton]at h;right;rw[h]
 |q::m,p,h=>by
  unfold C4 at h;split at h
  .rcases List.mem_cons.1 h with rfl|h
   .exact .inr rfl
   .exact .inl (List.mem_cons_of_mem _ h)
  .rcases List.mem_cons.1 h with rfl|h
   .exact .inl List.mem_cons_self
   .exact(Agt h).imp (List.mem_cons_of_mem _) id
end
def kyP(p:Int×Int):K2:=⟨B.fl p.1 p.2,B.fl p.2 p.2⟩
def kyQ(t:A9):List (Int×Int):=[(t.ll,t.hl),(t.lh,t.hh)]
variable {H:HY} {X:PX} {b:Nat} {S:Sto} {x:Int}
theorem Afs{m:List (K2×Bool)}{p:Int×Int}{N1 N2:HP}(hS:Dc H b S)(hx:x.toNat<S.tb.length)(h:x.toNat<S.ob.tables.length)(hp:0<=p.2)(hT:∀q∈m,q.2=true)(h1:(p.1≠p.2->Ac (S.ta x.toNat).ids (kyP p)=none->kyP p∈m.map (·.1))->N1 H)(h2:Ac m (kyP p)=none->N2 H):Wp Y0 Fy Et (S.ob.tables[x.toNat]'h,A7 p.1 (Bt p.2),A7 p.2 (Bt p.2),()) H (λb _ H'=>(A7 p.1 (Bt p.2)=A7 p.2 (Bt p.2)->N1 H')/\(¬A7 p.1 (Bt p.2)=A7 p.2 (Bt p.2)->(b.2.1=true->N1 H')/\(¬b.2.1=true->((Ac m (⟨A7 p.1 (Bt p.2),A7 p.2 (Bt p.2)⟩:K2)).getD false=true->N1 H')/\(¬(Ac m (⟨A7 p.1 (Bt p.2),A7 p.2 (Bt p.2)⟩:K2)).getD false=true->N2 H')))) X:=by
 have hob:S.ob.tables[x.toNat]'h=some S.tb[x.toNat]:=by simp [Sto.ob]
 have hb:∀e:Int,A7 e (Bt p.2)=B.fl e p.2:=λe=>Pl hp;rw[hob,hb,hb];have hk:(⟨B.fl p.1 p.2,B.fl p.2 p.2⟩:K2)=kyP p:=rfl;rw[hk];refine Wd (hS.ta x.toNat hx) (λhn=>⟨λe=>h1 λhne=>absurd (B.Aaf e) hne,λ_=>⟨λh=>(by cases h),λ_=>⟨λhm=>h1 λ_ _=>?_,λhm=>h2 ?_⟩⟩⟩) λi hi=>⟨λe=>h1 λhne=>absurd (B.Aaf e) hne,λ_=>⟨λ_=>h1 λ_ hn=>?_,λh=>absurd rfl h⟩⟩
 .cases e:Ac m (kyP p) with
  |none=>rw[e]at hm;cases hm
  |some v=>exact List.mem_map_of_mem (f:=Prod.fst) (Nu e)
 .cases e:Ac m (kyP p) with
  |none=>rfl
  |some v=>
   have:=hT _ (Nu e);simp only at this;subst this;rw[e]at hm;exact absurd rfl hm
 .rw[show Ac (S.ta x.toNat).ids (kyP p)=some i from hi]at hn;cases hn
theorem Af1{l:List A9}{Q:Int×Unit->UU}(hS:Dc H b S)(hx:0<=x/\x<S.n)(hl:∀t∈l,∀p∈kyQ t,0<=p.2)(hlen:l.length<=2000000)(h:∀K:List K2,K.Nodup->K.length<=2*l.length->(∀t∈l,∀p∈kyQ t,p.1≠p.2->Ac (S.ta x.toNat).ids (kyP p)=none->kyP p∈K)->Q (K.length,()) () H):Wp Y0 Lt Ie (some b,x,l,()) H Q X:=by
 refine Yj _ _ _ _ _ _ ?_;unfold Qq;have hx':x.toNat<S.tb.length:=by have:=hx.2;unfold Sto.n at this;omega
 have hob:∀h,S.ob.tables[x.toNat]'h=some S.tb[x.toNat]:=λh=>by simp [Sto.ob]
 let W (m:List (K2×Bool)) (c:Nat):Prop:=mnd m/\c=m.length/\∀p∈m,p.2=true;let G (m:List (K2×Bool)) (p:Int×Int):Prop:=p.1≠p.2->Ac (S.ta x.toNat).ids (kyP p)=none->kyP p∈m.map (·.1);have gmono:∀{m:List (K2×Bool)}{k:K2}{p:Int×Int},G m p->G (C4 m k true) p:=λhg h1 h2=>(Adp _ _ _ _).2 (.inl (hg h1 h2));intro _;refine⟨λn z H'=>H'=H/\n=l.length-z.2.2.1/\z.2.2.1<=l.length/\W z.1 z.2.1/\z.2.1<=2*z.2.2.1/\∀j(_:j<l.length),j<z.2.2.1->∀p∈kyQ l[j],G z.1 p,⟨_,rfl,rfl,Nat.zero_le _,⟨List.nodup_nil,rfl,λp hp=>absurd hp List.not_mem_nil⟩,Nat.le_refl _,λj _ hj=>absurd hj (Nat.not_lt_zero j)⟩,?_⟩;rintro n ⟨m,c,k,_⟩ H' ⟨rfl,hn0,hk0,hW0,hc0,hG0⟩;have hn:n=l.length-k:=hn0;have hk:k<=l.length:=hk0;have hW:W m c:=hW0;have hc:c<=2*k:=hc0;have hG:∀j(_:j<l.length),j<k->∀p∈kyQ l[j],G m p:=hG0;clear hn0 hk0 hW0 hc0 hG0;refine⟨λhkl _=>?_,λhkl=>?_⟩
 .have hkl':k<l.length:=hkl;have hpos:=hl l[k] (List.getElem_mem hkl');refine⟨hkl',λ_=>⟨λn1 z H''=>H''=H'/\n1=2-z.2.2.2.1/\z.2.2.2.1<=2/\z.2.2.1=(kyQ l[k]).map (λp=>(⟨p.1,p.2⟩:K2))/\W z.1 z.2.1/\z.2.1<=2*k+z.2.2.2.1/\(∀j(_:j<l.length),j<k->∀p∈kyQ l[j],G z.1 p)/\∀p∈(kyQ l[k]).take z.2.2.2.1,G z.1 p,⟨2,rfl,rfl,Nat.zero_le _,rfl,hW,hc,hG,λp hp=>absurd hp List.not_mem_nil⟩,?_⟩⟩;rintro n1 ⟨m1,c1,ks,j,_⟩ H'' ⟨rfl,hn1',hj1',hks',hW1',hc1',hG1',hT1'⟩;have hn1:n1=2-j:=hn1';have hj1:j<=2:=hj1';have hks:ks=(kyQ l[k]).map (λp=>(⟨p.1,p.2⟩:K2)):=hks';have hW1:W m1 c1:=hW1';have hc1:c1<=2*k+j:=hc1';have hG1:∀j(_:j<l.length),j<k->∀p∈kyQ l[j],G m1 p:=hG1';have hT1:∀p∈(kyQ l[k]).take j,G m1 p:=hT1';clear hn1' hj1' hks' hW1' hc1' hG1' hT1';subst hks;have next:∀m2 c2,W m2 c2->c2<=2*k+(j+1)->(∀p,G m1 p->G m2 p)->(hj:j<2)->G m2 ((kyQ l[k])[j]'hj)->j+1<=9223372036854775807/\∃m',m'<n1/\(H''=H''/\m'=2-(j+1)/\j+1<=2/\(kyQ l[k]).map (λp=>(⟨p.1,p.2⟩:K2))=(kyQ l[k]).map (λp=>(⟨p.1,p.2⟩:K2))/\W m2 c2/\c2<=2*k+(j+1)/\(∀j(_:j<l.length),j<k->∀p∈kyQ l[j],G m2 p)/\∀p∈(kyQ l[k]).take (j+1),G m2 p):=λm2 c2 hW2 hc2 hGG hj hg=>by
   refine⟨by show j+1<=_;omega,2-(j+1),by omega,rfl,rfl,by omega,rfl,hW2,hc2,λi hi hik p hp=>hGG p (hG1 i hi hik p hp),λp hp=>?_⟩;rw[List.take_succ_eq_append_getElem (by exact hj)]at hp;rcases List.mem_append.1 hp with hp|hp
   .exact hGG p (hT1 p hp)
   .rw[List.mem_singleton]at hp;rw[hp];exact hg
  have new:∀(κ:K2)p,κ=kyP p->Ac m1 (kyP p)=none->W (C4 m1 κ true) (c1+1)/\G (C4 m1 κ true) p:=fun κ p e hn=>by subst e;refine⟨⟨Pm hW1.1 _ _,by rw[Rn hn,hW1.2.1],λq hq=>(Agt hq).elim (hW1.2.2 q) id⟩,λ_ _=>(Adp _ _ _ _).2 (.inr rfl)⟩
  refine⟨λhjl _=>?_,λhjl=>?_⟩
  .have hj2:j<2:=hjl;obtain rfl|rfl:j=0∨j=1:=by omega
   .refine⟨by show 0<2;decide,by show 0<2;decide,b,rfl,S.ob,hS.st,λ_=>⟨λ_=>hx.1,by simpa [Sto.ob] using hx',by simpa [Sto.ob] using hx',rfl,?_⟩⟩;refine Afs (p:=(l[k].ll,l[k].hl)) hS hx' _ (hpos (l[k].ll,l[k].hl) List.mem_cons_self) hW1.2.2 (λhg=>next m1 c1 hW1 (by omega) (λ_ h=>h) hj2 hg) λhn=>⟨by show c1+1<=_;omega,?_⟩
    have w:=new (⟨A7 l[k].ll (Bt l[k].hl),A7 l[k].hl (Bt l[k].hl)⟩:K2) (l[k].ll,l[k].hl) (by unfold kyP;simp only[Pl (hpos (l[k].ll,l[k].hl) List.mem_cons_self)]) hn;exact next (C4 m1 (⟨A7 l[k].ll (Bt l[k].hl),A7 l[k].hl (Bt l[k].hl)⟩:K2) true) (c1+1) w.1 (by omega) (λ_ h=>gmono h) hj2 w.2
   .refine⟨by show 1<2;decide,by show 1<2;decide,b,rfl,S.ob,hS.st,λ_=>⟨λ_=>hx.1,by simpa [Sto.ob] using hx',by simpa [Sto.ob] using hx',rfl,?_⟩⟩;refine Afs (p:=(l[k].lh,l[k].hh)) hS hx' _ (hpos (l[k].lh,l[k].hh) (List.mem_cons_of_mem _ List.mem_cons_self)) hW1.2.2 (λhg=>next m1 c1 hW1 (by omega) (λ_ h=>h) hj2 hg) λhn=>⟨by show c1+1<=_;omega,?_⟩
    have w:=new (⟨A7 l[k].lh (Bt l[k].hh),A7 l[k].hh (Bt l[k].hh)⟩:K2) (l[k].lh,l[k].hh) (by unfold kyP;simp only[Pl (hpos (l[k].lh,l[k].hh) (List.mem_cons_of_mem _ List.mem_cons_self))]) hn;exact next (C4 m1 (⟨A7 l[k].lh (Bt l[k].hh),A7 l[k].hh (Bt l[k].hh)⟩:K2) true) (c1+1) w.1 (by omega) (λ_ h=>gmono h) hj2 w.2
  .have hj2:¬j<2:=hjl;have:j=2:=by omega
   subst this;refine⟨by show k+1<=_;omega,l.length-(k+1),by omega,rfl,rfl,by show k+1<=_;omega,hW1,by show c1<=2*(k+1);omega,λi hi hik p hp=>?_⟩;have hik:i<k+1:=hik;by_cases e:i=k
   .subst e;exact hT1 p hp
   .exact hG1 i hi (by omega) p hp
 .have hkl':¬k<l.length:=hkl;have hke:k=l.length:=by omega
  have hW1:(m.map (·.1)).Nodup:=hW.1;have:=h (m.map (·.1)) hW1 (by rw[List.length_map,<-hW.2.1];omega) λt ht p hp=>by obtain⟨j,hj,rfl⟩:=List.mem_iff_getElem.1 ht;exact hG j hj (by omega) p hp
  rw[List.length_map,<-hW.2.1]at this;exact this
theorem Af2{r:Int->Int}{lo hi:Int}{Q:Int×Unit->UU}(hS:Dc H b S)(hC:SC S r)(hK:∀p d,tbl S.po p=some d->B.Ok (tbl S.po) d.lo/\B.Ok (tbl S.po) d.hi)(hr:∀i,tbl S.po i=none->r i=0)(hx:0<=x/\x<S.n)(hh:0<=hi)(hroom:lo≠hi->Ac (S.ta x.toNat).ids (kyP (lo,hi))=none->S.po.many≠S.po.room)(hb:∀i,Ac (S.ta x.toNat).ids (kyP (lo,hi))=some i->0<i/\i<2000000)(h0:lo=hi->Q (lo,()) () H)(h1:∀i,lo≠hi->Ac (S.ta x.toNat).ids (kyP (lo,hi))=some i->Q (B.fl (2*i) hi,()) () H)(h2:∀i S' H',lo≠hi->Ac (S.ta x.toNat).ids (kyP (lo,hi))=none->Arf S x (B.fl lo hi) (B.fl hi hi) i S'->Dc H' b S'->SC S' r->FrE b S H H'->Q (B.fl (2*i) hi,()) () H'):Wp Y0 D3 Dd (some b,x,lo,hi,()) H Q X:=by
 refine Ym _ _ _ _ _ _ _ ?_;unfold Qt;have hx':x.toNat<S.tb.length:=by have:=hx.2;unfold Sto.n at this;omega
 have hob:S.ob.tables[x.toNat]'(by simpa [Sto.ob] using hx')=some S.tb[x.toNat]:=by simp [Sto.ob]
 have hbf:∀e:Int,A7 e (Bt hi)=B.fl e hi:=λe=>Pl hh;refine⟨h0,λhne=>⟨b,rfl,S.ob,hS.st,λ_=>⟨λ_=>hx.1,by simpa [Sto.ob] using hx',by simpa [Sto.ob] using hx',rfl,?_⟩⟩⟩;rw[hob];simp only[hbf];refine Wd (hS.ta x.toNat hx') (λhn=>⟨λ_=>?_,λh=>absurd (by simp) h⟩) λi hi'=>⟨λh=>absurd rfl h,λ_=>?_⟩
 .refine Aba hS hC hK hr hx hn (λhm=>absurd hm (hroom hne hn)) λi S' H' _ ha s1 c1 f1=>⟨λ_=>?_,?_⟩
  .have:=ha.lt;show i<=_;omega
  .have:=ha.pos;show Q (B.fl (2*max i 0) hi,()) () H';rw[show max i 0=i by omega];exact h2 i S' H' hne hn ha s1 c1 f1
 .have:=hb i hi';refine⟨λ_=>by show i<=_;omega,?_⟩;show Q (B.fl (2*max i 0) hi,()) () H;rw[show max i 0=i by omega];exact h1 i hne hi'
def swL(x:Bd)(k:Nat)(a b:Int):Bd:={vars:=(x.vars.set k b).set (k+1) a,level:=(x.level.set a.toNat ((k:Int)+1)).set b.toNat k}
theorem Ag0{c:Nat}{x:Bd}{k:Nat}{a b:Int}{Q:Unit->UU}(hx:H c=some (.st Eb x))(ha:x.vars[k]?=some a)(hb:x.vars[k+1]?=some b)(ha0:0<=a/\a.toNat<x.level.length)(hb0:0<=b/\b.toNat<x.level.length)(hl:x.vars.length<=64)(h:Q () () (Ab H c (.st Eb (swL x k a b)))):Wp Y0 Ls Ic (some c,(k:Int),()) H Q X:=by
 refine Yi _ _ _ _ _ ?_;unfold Qp;obtain⟨hk,ea⟩:=List.getElem?_eq_some_iff.1 ha;obtain⟨hk1,eb⟩:=List.getElem?_eq_some_iff.1 hb;have t0:((k:Int)).toNat=k:=by omega
 have t1:((k:Int)+1).toNat=k+1:=by omega
 have ik:InK .i64 ((k:Int)+1):=Bk.2 (by omega);subst ea eb;simp only[t0,t1,List.length_set];exact⟨c,rfl,x,hx,λ_=>⟨λ_=>by omega,hk,hk,λ_=>⟨ik,λ_=>⟨λ_=>by omega,hk1,hk1,λ_=>⟨ik,λ_=>⟨λ_=>by omega,hk,hk,λ_=>⟨λ_=>by omega,hk1,hk1,λ_=>⟨ik,λ_=>⟨λ_=>ha0.1,ha0.2,ha0.2,λ_=>⟨λ_=>hb0.1,hb0.2,hb0.2,h⟩⟩⟩⟩⟩⟩⟩⟩⟩⟩
end
section
structure Cx(S1:Sto)(x y:Int)(L:List A9)(K:List K2):Prop where
 si:SI S1
 live:∀i d,tbl S1.po i=some d->0<cnA S1.cn i
 hx:0<=x/\x<S1.n
 hy:0<=y/\y<S1.n
 hxy:lvA S1.lv y=lvA S1.lv x+1
 nd:(L.map (·.n.ID)).Nodup
 te:∀t∈L,TnE S1 x y t
 all:∀i n,pNd S1.po i=some n->n.Var=x->(B.isV (tbl S1.po) y n.Lo∨B.isV (tbl S1.po) y n.Hi)->∃t∈L,t.n=n
 kn:K.Nodup
 ka:∀t∈L,∀p∈kyQ t,p.1≠p.2->Ac (S1.ta x.toNat).ids (kyP p)=none->kyP p∈K
 room:S1.po.many+K.length<=S1.po.room
structure Mid(S1:Sto)(x y:Int)(L:List A9)(K:List K2)(k:Nat)(S:Sto):Prop where
 mix:B.Mix S1.n (lvA S1.lv) (tbl S1.po) x y (λi=>∃t∈L.take k,t.n.ID=i) (tbl S.po)
 rf:∀j,rfA S.po j=rfA S1.po j
 tb:S.tb=S1.tb
 bl:S.bl=S1.bl
 bp:S.bp=S1.bp
 room:S.po.room=S1.po.room
 tn:∀v:Nat,v<S1.tb.length->mnd (S.ta v).ids
 tx:∀lo hi i,Ac (S.ta x.toNat).ids (⟨lo,hi⟩:K2)=some i↔tbl S.po i=some ⟨x,lo,hi⟩/\¬∃t∈L.drop k,t.n.ID=i
 tv:∀v:Nat,v<S1.tb.length->(v:Int)≠x->∀lo hi i,Ac (S.ta v).ids (⟨lo,hi⟩:K2)=some i↔tbl S.po i=some ⟨(v:Int),lo,hi⟩
 add:∃A:List K2,A.Nodup/\(∀κ∈A,κ∈K/\Ac (S.ta x.toNat).ids κ≠none)/\S.po.many=S1.po.many+A.length
section
variable {S1:Sto} {x y:Int} {L:List A9} {K:List K2}
variable {t:A9}
theorem Cx.tn(c:Cx S1 x y L K)(ht:t∈L):B.Tn (tbl S1.po) x y t.n.ID ⟨x,t.n.Lo,t.n.Hi⟩/\∀p∈kyQ t,B.Ok (tbl S1.po) p.1/\B.Ok (tbl S1.po) p.2/\lvA S1.lv y<B.el S1.n (lvA S1.lv) (tbl S1.po) p.1/\lvA S1.lv y<B.el S1.n (lvA S1.lv) (tbl S1.po) p.2:=by
 have e:=c.te t ht;have hd:=Ln e.nd;rw[e.v]at hd;have f1:=c.si.C6.four Sto.P4 c.hy c.hxy hd rfl _ (.inl rfl);have f2:=c.si.C6.four Sto.P4 c.hy c.hxy hd rfl _ (.inr rfl);simp only at f1 f2;have e1:B.sp (tbl S1.po) y t.n.Lo=(t.ll,t.lh):=e.l.symm;have e2:B.sp (tbl S1.po) y t.n.Hi=(t.hl,t.hh):=e.h.symm;rw[e1]at f1;rw[e2]at f2;refine⟨⟨hd,rfl,?_⟩,λp hp=>?_⟩
 .rcases e.ne with h|h
  .refine .inl (c.si.C6.Ajn.2 ?_);simp only;rw[e1];exact h
  .refine .inr (c.si.C6.Ajn.2 ?_);simp only;rw[e2];exact h
 .unfold kyQ at hp;rcases List.mem_cons.1 hp with rfl|hp
  .exact⟨f1.1,f2.1,f1.2.2.1,f2.2.2.1⟩
  .rw[List.mem_singleton]at hp;subst hp;exact⟨f1.2.1,f2.2.1,f1.2.2.2.1,f2.2.2.2.1⟩
theorem Cx.A8a(c:Cx S1 x y L K)(ht:t∈L){a b:Int}(la:lvA S1.lv y<B.el S1.n (lvA S1.lv) (tbl S1.po) a)(lb:lvA S1.lv y<B.el S1.n (lvA S1.lv) (tbl S1.po) b):¬(t.n.Lo=a/\t.n.Hi=b):=by
 rintro⟨rfl,rfl⟩;rcases(c.tn ht).1.2.2 with h|h
 .exact B.noY c.si.C6 la h
 .exact B.noY c.si.C6 lb h
variable {k:Nat}
theorem Abs{l:List A9}(h:(l.map (·.n.ID)).Nodup){s:A9}(hs:s∈l.take k)(ht:t∈l.drop k):s.n.ID≠t.n.ID:=by
 have h1:l.map (·.n.ID)=(l.take k).map (·.n.ID)++(l.drop k).map (·.n.ID):=by rw[<-List.map_append,List.take_append_drop]
 rw[h1,List.nodup_append]at h;exact h.2.2 _ (List.mem_map_of_mem hs) _ (List.mem_map_of_mem ht)
theorem Mid.Aft(c:Cx S1 x y L K){S:Sto}(m:Mid S1 x y L K k S)(ht:t∈L.drop k):tbl S.po t.n.ID=some ⟨x,t.n.Lo,t.n.Hi⟩/\¬∃s∈L.take k,s.n.ID=t.n.ID:=by have hn:¬∃s∈L.take k,s.n.ID=t.n.ID:=λ⟨s,hs,e⟩=>Abs c.nd hs ht e;exact⟨m.mix.stay (c.tn (List.mem_of_mem_drop ht)).1.1 λh=>hn h.2,hn⟩
theorem Azm{M:B.Tb}{i lo hi:Int}(hi0:0<i)(hne:lo≠hi)(h:M i=some ⟨x,B.fl lo hi,B.fl hi hi⟩):B.Bel M x lo hi (B.fl (2*i) hi)/\B.Ok M (B.fl (2*i) hi):=by
 have e1:B.fl (2*i) hi/2=i:=by rw[B.Aqz];omega
 have e2:0<=B.fl (2*i) hi:=by unfold B.fl B.flip;split<;>(try split)<;>omega
 have e3:B.fl (2*i) hi%2=hi%2:=by rw[B.Ayr];omega
 exact⟨.inr ⟨hne,e2,by omega,e3,by rw[e1];exact h⟩,e2,.inr ⟨_,by rw[e1];exact h⟩⟩
theorem Aj3{b:Nat}{S:Sto}{p:Int×Int}{H:HY}{X:PX}{Q:Int×Unit->UU}(c:Cx S1 x y L K)(m:Mid S1 x y L K k S)(hC:SC S (rfA S1.po))(hS:Dc H b S)(ht:t∈L.drop k)(hp:p∈kyQ t)(h:∀e S' H',Mid S1 x y L K k S'->SC S' (rfA S1.po)->Dc H' b S'->FrE b S H H'->S'.lv=S.lv->B.Ok (tbl S'.po) e->B.Bel (tbl S'.po) x p.1 p.2 e->(∀i d,tbl S.po i=some d->tbl S'.po i=some d)->Q (e,()) () H'):Wp Y0 D3 Dd (some b,x,p.1,p.2,()) H Q X:=by
 have htL:=List.mem_of_mem_drop ht;obtain⟨hpa,hpb,la,lb⟩:=(c.tn htL).2 p hp;have hn:S.n=S1.n:=by unfold Sto.n;rw[m.tb]
 have hx':x.toNat<S1.tb.length:=by have:=c.hx;unfold Sto.n at this;omega
 have dag:=m.mix.dag c.si.C6 Sto.P4 c.hx c.hy c.hxy;have none0:∀{j d},tbl S.po j=some d->0<j/\j<2000000:=λ{j d}hj=>by have:=hC.cn.dom hj;have:=hC.po.len;have:=hC.po.room;omega
 have key:p.1≠p.2->Ac (S.ta x.toNat).ids (kyP p)=none->kyP p∈K:=λhne hno=>by
  refine c.ka t htL p hp hne ?_;cases e:Ac (S1.ta x.toNat).ids (kyP p) with
  |none=>rfl
  |some j=>
   exfalso;have h1:=(c.si.tg x.toNat hx' _ _ _).1 e;rw[show ((x.toNat:Nat):Int)=x by have:=c.hx;omega]at h1;have notT:∀s∈L,s.n.ID≠j:=λs hs e2=>by have h2:=(c.tn hs).1.1;rw[e2,h1]at h2;have h3:=Option.some.inj h2;exact c.A8a hs (a:=B.fl p.1 p.2) (b:=B.fl p.2 p.2) (by rw[B.Qv];exact la) (by rw[B.Qv];exact lb) ⟨(congrArg B.Nd.lo h3).symm,(congrArg B.Nd.hi h3).symm⟩
   have h2:=m.mix.stay h1 λ⟨_,s,hs,e2⟩=>notT s (List.mem_of_mem_take hs) e2;have:=(m.tx _ _ j).2 ⟨h2,λ⟨s,hs,e2⟩=>notT s (List.mem_of_mem_drop hs) e2⟩;rw[show Ac (S.ta x.toNat).ids (kyP p)=some j from this]at hno;cases hno
 refine Af2 hS hC (λq d hd=>⟨(dag.lo hd).1,(dag.hi hd).1⟩) (λi hi=>?_) (by rw[hn];exact c.hx) hpb.1 (λhne hno=>?_) (λi hi=>?_) (λhe=>?_) (λi hne hi=>?_) λi S' H' hne hno ha s1 c1 f1=>?_
 .rw[<-m.rf];exact Af6 hi
 .obtain⟨A,a1,a2,a3⟩:=m.add;have hk:=key hne hno;have hlt:(kyP p::A).length<=K.length:=Na (List.nodup_cons.2 ⟨λhm=>(a2 _ hm).2 hno,a1⟩) λq hq=>by
   rcases List.mem_cons.1 hq with rfl|hq
   .exact hk
   .exact(a2 q hq).1
  have:=c.room;rw[List.length_cons]at hlt;rw[a3,m.room];omega
 .exact none0 ((m.tx _ _ _).1 hi).1
 .exact h p.1 S H m hC hS FrE.refl rfl (m.mix.ok hpa) (.inl ⟨he,rfl⟩) λ_ _ h=>h
 .have h1:=((m.tx _ _ _).1 hi).1;have:=Azm (none0 h1).1 hne h1;exact h _ S H m hC hS FrE.refl rfl this.2 this.1 λ_ _ h=>h
 .have hself:tbl S'.po i=some ⟨x,B.fl p.1 p.2,B.fl p.2 p.2⟩:=by rw[ha.tbl];exact B.Ad4
  have hbel:=Azm ha.pos hne hself;have hext:∀j d,tbl S.po j=some d->tbl S'.po j=some d:=λj d hj=>by rw[ha.tbl];exact B.Acv ha.old j d hj
  have hno':∀j,tbl S.po j≠some ⟨x,B.fl p.1 p.2,B.fl p.2 p.2⟩:=λj hj=>by
   have:=(m.tx _ _ j).2 ⟨hj,λ⟨s,hs,e2⟩=>by have h2:=(m.Aft c hs).1;rw[e2,hj]at h2;have h3:=Option.some.inj h2;exact c.A8a (List.mem_of_mem_drop hs) (a:=B.fl p.1 p.2) (b:=B.fl p.2 p.2) (by rw[B.Qv];exact la) (by rw[B.Qv];exact lb) ⟨(congrArg B.Nd.lo h3).symm,(congrArg B.Nd.hi h3).symm⟩⟩
   rw[show Ac (S.ta x.toNat).ids (kyP p)=some j from this]at hno;cases hno
  refine h _ S' H' ⟨?_,λj=>(ha.rf j).trans (m.rf j),ha.tb.trans m.tb,ha.bl.trans m.bl,ha.bp.trans m.bp,ha.room.trans m.room,λv hv=>?_,λlo hi j=>?_,λv hv hvx lo hi j=>?_,?_⟩ c1 s1 f1 ha.lv hbel.2 hbel.1 hext
  .rw[ha.tbl];exact m.mix.add c.si.C6 ha.pos ha.old hpa.fl hpb.fl (by rw[B.Qv];exact la) (by rw[B.Qv];exact lb) (λe=>hne (B.Aaf e)) B.Aeg hno'
  .rw[ha.ta];split
   .exact Pm (m.tn v hv) _ _
   .exact m.tn v hv
  .rw[ha.ta,if_pos rfl,ha.tbl];simp only;rw[D4];by_cases ek:(⟨lo,hi⟩:K2)=⟨B.fl p.1 p.2,B.fl p.2 p.2⟩
   .rw[if_pos ek];obtain⟨rfl,rfl⟩:lo=B.fl p.1 p.2/\hi=B.fl p.2 p.2:=by injection ek with a b;exact⟨a,b⟩
    constructor
    .intro hj;obtain rfl:i=j:=by injection hj
     refine⟨B.Ad4,λ⟨s,hs,e2⟩=>?_⟩;have:=(m.Aft c hs).1;rw[e2,ha.old]at this;cases this
    .rintro⟨hj,_⟩;unfold B.Oa at hj;split at hj
     .rename_i e;rw[e]
     .exact absurd hj (hno' j)
   .rw[if_neg ek,m.tx];unfold B.Oa;split
    .rename_i e;subst e;rw[ha.old];constructor
     .rintro⟨h1,_⟩;cases h1
     .rintro⟨h1,_⟩;have h3:=Option.some.inj h1;exact absurd (by rw[show lo=_ from (congrArg B.Nd.lo h3).symm,show hi=_ from (congrArg B.Nd.hi h3).symm]) ek
    .rfl
  .rw[ha.ta,if_neg (by have:=c.hx;omega),ha.tbl,m.tv v hv hvx];unfold B.Oa;split
   .rename_i e;subst e;rw[ha.old];constructor
    .intro h1;cases h1
    .intro h1;have h3:=Option.some.inj h1;exact absurd (congrArg B.Nd.v h3).symm hvx
   .rfl
  .obtain⟨A,a1,a2,a3⟩:=m.add;have hself:Ac (S'.ta x.toNat).ids (kyP p)≠none:=by rw[ha.ta,if_pos rfl];show Ac (C4 _ (kyP p) i) (kyP p)≠none;rw[D4,if_pos rfl];simp
   refine⟨kyP p::A,List.nodup_cons.2 ⟨λhm=>(a2 _ hm).2 hno,a1⟩,fun κ hκ=>?_,by rw[ha.many,a3,List.length_cons];omega⟩;rcases List.mem_cons.1 hκ with rfl|hκ
   .exact⟨key hne hno,hself⟩
   .refine⟨(a2 κ hκ).1,?_⟩;rw[ha.ta,if_pos rfl];simp only;rw[D4];split
    .simp
    .exact(a2 κ hκ).2
end
end
section
section
variable {S1:Sto} {x y:Int} {L:List A9} {K:List K2}
variable {k:Nat} {S:Sto}
theorem Mid.wc(m:Mid S1 x y L K k S)(cn:List Int)(dead:Int):Mid S1 x y L K k (S.wc cn dead):=⟨m.mix,m.rf,m.tb,m.bl,m.bp,m.room,m.tn,m.tx,m.tv,m.add⟩
theorem Ar0(hk:k<L.length)(i:Int):(∃t∈L.take (k+1),t.n.ID=i)↔(∃t∈L.take k,t.n.ID=i)∨i=(L[k]).n.ID:=by
 rw[List.take_succ_eq_append_getElem hk];constructor
 .rintro⟨t,ht,e⟩;rcases List.mem_append.1 ht with ht|ht
  .exact .inl ⟨t,ht,e⟩
  .rw[List.mem_singleton]at ht;subst ht;exact .inr e.symm
 .rintro(⟨t,ht,e⟩|e)
  .exact⟨t,List.mem_append_left _ ht,e⟩
  .exact⟨_,List.mem_append_right _ (List.mem_singleton.2 rfl),e.symm⟩
theorem A11(hk:k<L.length)(i:Int):(∃t∈L.drop k,t.n.ID=i)↔i=(L[k]).n.ID∨∃t∈L.drop (k+1),t.n.ID=i:=by
 rw[List.drop_eq_getElem_cons hk];constructor
 .rintro⟨t,ht,e⟩;rcases List.mem_cons.1 ht with rfl|ht
  .exact .inl e.symm
  .exact .inr ⟨t,ht,e⟩
 .rintro(e|⟨t,ht,e⟩)
  .exact⟨_,List.mem_cons_self,e.symm⟩
  .exact⟨t,List.mem_cons_of_mem _ ht,e⟩
theorem A1e(c:Cx S1 x y L K)(m:Mid S1 x y L K k S)(hk:k<L.length){lo hi:Int}(b1:B.Bel (tbl S.po) x (L[k]).ll (L[k]).hl lo)(b2:B.Bel (tbl S.po) x (L[k]).lh (L[k]).hh hi){x':Av}(hnd:∀j,pNd x' j=if j=(L[k]).n.ID then some (⟨(L[k]).n.ID,y,lo,hi,(L[k]).n.Refs⟩:Am) else pNd S.po j)(hmany:x'.many=S.po.many)(hroom:x'.room=S.po.room):Ac (S.ta y.toNat).ids (⟨lo,hi⟩:K2)=none/\Mid S1 x y L K (k+1) {S with po:=x',ta:=λw=>if w=y.toNat then ⟨C4 (S.ta y.toNat).ids (⟨lo,hi⟩:K2) (L[k]).n.ID⟩ else S.ta w}/\tbl x'=λj=>if j=(L[k]).n.ID then some ⟨y,lo,hi⟩ else tbl S.po j:=by
 have hne:x≠y:=λe=>by have:=c.hxy;rw[e]at this;omega
 have hy':y.toNat<S1.tb.length:=by have:=c.hy;unfold Sto.n at this;omega
 have hyy:((y.toNat:Nat):Int)=y:=by have:=c.hy;omega
 have hmem:L[k]∈L.drop k:=by rw[List.drop_eq_getElem_cons hk];exact List.mem_cons_self
 have hL:=List.mem_of_mem_drop hmem;have e:=c.te _ hL;obtain⟨u1,u2⟩:=m.Aft c hmem;have ht:tbl x'=λj=>if j=(L[k]).n.ID then some ⟨y,lo,hi⟩ else tbl S.po j:=by funext j;unfold tbl;rw[hnd];split<;>rfl
 have e1:B.sp (tbl S1.po) y (L[k]).n.Lo=((L[k]).ll,(L[k]).lh):=e.l.symm;have e2:B.sp (tbl S1.po) y (L[k]).n.Hi=((L[k]).hl,(L[k]).hh):=e.h.symm;have c1:B.Bel (tbl S.po) x (B.sp (tbl S1.po) y (L[k]).n.Lo).1 (B.sp (tbl S1.po) y (L[k]).n.Hi).1 lo:=by rw[e1,e2];exact b1
 have c2:B.Bel (tbl S.po) x (B.sp (tbl S1.po) y (L[k]).n.Lo).2 (B.sp (tbl S1.po) y (L[k]).n.Hi).2 hi:=by rw[e1,e2];exact b2
 have hyn:=m.mix.A83 c.si.C6 Sto.P4 c.hx c.hy c.hxy (c.tn hL).1 u2 c1 c2;have hv:=m.tv y.toNat hy' (by rw[hyy];exact Ne.symm hne);rw[hyy]at hv;have hno:Ac (S.ta y.toNat).ids (⟨lo,hi⟩:K2)=none:=by
  cases e:Ac (S.ta y.toNat).ids (⟨lo,hi⟩:K2) with
  |none=>rfl
  |some j=>exact absurd ((hv _ _ _).1 e) (hyn j)
 refine⟨hno,⟨?_,λj=>?_,m.tb,m.bl,m.bp,hroom.trans m.room,λv hv=>?_,λlo' hi' i=>?_,λv hvl hvx lo' hi' i=>?_,?_⟩,ht⟩
 .show B.Mix _ _ _ _ _ _ (tbl x');rw[ht,show (λi=>∃t∈L.take (k+1),t.n.ID=i)=λj=>(∃t∈L.take k,t.n.ID=j)∨j=(L[k]).n.ID from funext λi=>propext (Ar0 hk i)];exact m.mix.set c.si.C6 Sto.P4 c.hx c.hy c.hxy (c.tn hL).1 u2 c1 c2
 .rw[<-m.rf];show rfA x' j=_;by_cases ej:j=(L[k]).n.ID
  .subst ej;rw[m.rf];unfold rfA;rw[hnd,if_pos rfl,e.nd]
  .unfold rfA;rw[hnd,if_neg ej]
 .show mnd (if v=y.toNat then (⟨_⟩:Ay) else S.ta v).ids;split
  .exact Pm (m.tn _ hy') _ _
  .exact m.tn v hv
 .show Ac (if x.toNat=y.toNat then (⟨_⟩:Ay) else S.ta x.toNat).ids _=some i↔tbl x' i=_/\_;rw[if_neg (by have:=c.hx;have:=c.hy;omega),m.tx,ht,A11 hk];by_cases ei:i=(L[k]).n.ID
  .simp only[ei,if_true];constructor
   .rintro⟨_,h⟩;exact absurd (.inl trivial) h
   .rintro⟨h,_⟩;exact absurd (congrArg B.Nd.v (Option.some.inj h)).symm hne
  .simp only[ei,if_false,false_or]
 .show Ac (if v=y.toNat then (⟨_⟩:Ay) else S.ta v).ids _=some i↔tbl x' i=_;rw[ht];show _↔(if i=(L[k]).n.ID then some ⟨y,lo,hi⟩ else tbl S.po i)=_;by_cases ev:v=y.toNat
  .subst ev;rw[if_pos rfl,hyy];simp only;rw[D4];by_cases ek:(⟨lo',hi'⟩:K2)=⟨lo,hi⟩
   .rw[if_pos ek];obtain⟨rfl,rfl⟩:lo'=lo/\hi'=hi:=by injection ek with a b;exact⟨a,b⟩
    constructor
    .intro h;rw[if_pos (Option.some.inj h).symm]
    .intro h;split at h
     .rename_i ei;rw[ei]
     .exact absurd h (hyn i)
   .rw[if_neg ek,hv];by_cases ei:i=(L[k]).n.ID
    .rw[if_pos ei,ei,u1];constructor
     .intro h;exact absurd (congrArg B.Nd.v (Option.some.inj h)) hne
     .intro h;have h3:=Option.some.inj h;exact absurd (by rw[show lo'=_ from (congrArg B.Nd.lo h3).symm,show hi'=_ from (congrArg B.Nd.hi h3).symm]) ek
    .rw[if_neg ei]
  .rw[if_neg ev,m.tv v hvl hvx];by_cases ei:i=(L[k]).n.ID
   .rw[if_pos ei,ei,u1];constructor
    .intro h;exact absurd (congrArg B.Nd.v (Option.some.inj h)).symm hvx
    .intro h;have:y=(v:Int):=congrArg B.Nd.v (Option.some.inj h);omega
   .rw[if_neg ei]
 .obtain⟨A,a1,a2,a3⟩:=m.add;refine⟨A,a1,fun κ hκ=>?_,by show x'.many=_;rw[hmany];exact a3⟩;show κ∈K/\Ac (if x.toNat=y.toNat then (⟨_⟩:Ay) else S.ta x.toNat).ids κ≠none;rw[if_neg (by have:=c.hx;have:=c.hy;omega)];exact a2 κ hκ
theorem Mid.live(c:Cx S1 x y L K)(m:Mid S1 x y L K k S){r:Int->Int}(hC:SC S r)(hr:∀i,rfA S1.po i<=r i){t:A9}(ht:t∈L.drop k):0<cnA S.cn t.n.ID:=by have hd:=(c.tn (List.mem_of_mem_drop ht)).1.1;have h1:=c.si.C6.od.rng x c.hx.1 c.hx.2;refine B.Cn.A1g (a:=lvA S1.lv x) c.si.C6 c.si.sc.cn c.live hC.cn c.si.rf hr (λi d hi hlt=>m.mix.stay hi λh=>?_) (lvA S1.lv x+1).toNat t.n.ID _ _ hd (Int.le_refl _) (by show lvA S1.lv x<_;omega) (m.Aft c ht).1;rw[h.1.2.1]at hlt;omega
theorem A4d{p:Option Nat}{b:Nat}{lo hi i:Int}{H:HY}{X:PX}{Q:Int×Unit->UU}(hp:p=some b)(h:Wp Y0 Fe Eh (some b,lo,hi,i,()) H Q X):Wp Y0 Fe Eh (p,lo,hi,i,()) H Q X:=by subst hp;exact h
theorem Axz{b:Nat}{H:HY}{X:PX}{N:HP}(c:Cx S1 x y L K)(hrb:∀i,rfA S1.po i<=576460752303423488)(m:Mid S1 x y L K k S)(hk:k<L.length)(hC:SC S (rfA S1.po))(hS:Dc H b S)(h:∀S' H',Mid S1 x y L K (k+1) S'->SC S' (rfA S1.po)->Dc H' b S'->FrE b S H H'->S'.lv=S.lv->N H'):Wp Y0 D3 Dd (some b,x,(L[k]).ll,(L[k]).hl,()) H (λ(b_10:Int×Unit)_ H'=>Wp Y0 D3 Dd (some b,x,(L[k]).lh,(L[k]).hh,()) H' (λ(b_11:Int×Unit)_ H'=>Wp Y0 B9 B3 (some b,b_10.1,()) H' (λ(_ _:Unit)(H':HY)=>Wp Y0 B9 B3 (some b,b_11.1,()) H' (λ(_ _:Unit)(H':HY)=>∃(x:Aa),H' b=some (Ob.st A8 x)/\x=x/\Wp Y0 Cy Co (x.Bs,{ID:=(L[k]).n.ID,Var:=y,Lo:=b_10.1,Hi:=b_11.1,Refs:=(L[k]).n.Refs:Am},()) H' (λ(_:Int×Unit)_ H'=>∃(x:Aa),H' b=some (Ob.st A8 x)/\(InK .i64 y->(InK .i64 y->0<=y)/\∃(h:y.toNat<x.tables.length),∃(_:y.toNat<x.tables.length),x=x/\Wp Y0 Fe Eh (x.tables[y.toNat],b_10.1,b_11.1,(L[k]).n.ID,()) H' (λ(_:Int×Unit)_ H'=>Wp Y0 Ca B4 (some b,(L[k]).n.Lo,()) H' (λ(_ _:Unit)(H':HY)=>Wp Y0 Ca B4 (some b,(L[k]).n.Hi,()) H' (λ(_ _:Unit)(H':HY)=>N H') X) X) X)) X) X) X) X) X:=by
 have hmem:L[k]∈L.drop k:=by rw[List.drop_eq_getElem_cons hk];exact List.mem_cons_self
 have hL:=List.mem_of_mem_drop hmem;have hy':y.toNat<S1.tb.length:=by have:=c.hy;unfold Sto.n at this;omega
 have hd:=(c.tn hL).1.1;have okN:∀e,B.Ok (tbl S1.po) e->∀{j:Nat}{S:Sto},Mid S1 x y L K j S->B.Ok (tbl S.po) e:=λe he j S m=>m.mix.ok he;refine Aj3 (p:=((L[k]).ll,(L[k]).hl)) c m hC hS hmem List.mem_cons_self λlo S2 H2 m2 c2 s2 f2 v2 o2 b2 _=>?_;refine Aj3 (p:=((L[k]).lh,(L[k]).hh)) c m2 c2 s2 hmem (List.mem_cons_of_mem _ List.mem_cons_self) λhi S3 H3 m3 c3 s3 f3 v3 o3 b3 ext3=>?_;have b2:B.Bel (tbl S3.po) x (L[k]).ll (L[k]).hl lo:=b2.ext ext3;have o2:B.Ok (tbl S3.po) lo:=o2.ext ext3;have dag:=m3.mix.dag c.si.C6 Sto.P4 c.hx c.hy c.hxy;have fuel:∀{N:B.Tb}{e:Int},B.Dag N (B.mrk (lvA S1.lv) (tbl S1.po) x y) (3*S1.n)->B.Ok N e->e/2≠0->3*S1.n-B.mrk (lvA S1.lv) (tbl S1.po) x y (e/2)<(3*S1.n+1).toNat:=λ{N e}dag he h0=>by obtain⟨d,hd⟩:=he.2.resolve_left h0;have:=dag.rng hd;omega
 refine Sv (rk:=B.mrk (lvA S1.lv) (tbl S1.po) x y) (n:=3*S1.n) (3*S1.n+1).toNat dag (fuel dag o2) s3 c3 o2 (λi d _=>by have:=hrb i;have:=@B.Ku lo i;show rfA S1.po i+B.dl lo i<=_;omega) λcn4 dead4 H4 s4 c4 _ f4=>?_;refine Sv (S:=S3.wc cn4 dead4) (rk:=B.mrk (lvA S1.lv) (tbl S1.po) x y) (n:=3*S1.n) (3*S1.n+1).toNat dag (fuel dag o3) s4 c4 o3 (λi d _=>by have:=hrb i;have:=@B.Ku lo i;have:=@B.Ku hi i;show rfA S1.po i+B.dl lo i+B.dl hi i<=_;omega) λcn5 dead5 H5 s5 c5 _ f5=>?_;have m5:=m3.wc cn5 dead5;have hpos:=Mid.live c m5 c5 (λi=>by have:=@B.Ku lo i;have:=@B.Ku hi i;show _<=rfA S1.po i+B.dl lo i+B.dl hi i;omega) hmem;have hund:=(m5.Aft c hmem).1;refine⟨_,s5.st,rfl,?_⟩;refine Wo (x:=S3.po) s5.po c5.po (λh0=>?_) λn0 x' hn0 hI' hnd hmany hroom hlen=>?_
 .obtain⟨n1,hn1,_⟩:=Kd hund;exact absurd (h0.symm.trans hn1) (by simp)
 obtain⟨t1,t2,t3⟩:=A1e (S:=S3.wc cn5 dead5) c m5 hk b2 b3 (x':=x') hnd hmany hroom;obtain⟨s6,f6⟩:=s5.Awn x';have hy6:y.toNat<S3.tb.length:=by rw[m3.tb];exact hy'
 refine⟨_,s6.st,λ_=>⟨λ_=>c.hy.1,by simpa [Sto.ob,Sto.wc] using hy6,by simpa [Sto.ob,Sto.wc] using hy6,rfl,?_⟩⟩;refine A4d (b:=S3.tb[y.toNat]) (by simp [Sto.ob,Sto.wc]) ?_;refine Afy (s6.ta _ hy6) t1 ?_;obtain⟨s7,f7⟩:=s6.Awm hy6 ⟨C4 (S3.ta y.toNat).ids (⟨lo,hi⟩:K2) (L[k]).n.ID⟩;obtain⟨k1,k2⟩:=c5.cn.set (d':=⟨y,lo,hi⟩) hund hpos;have c7:SC {S3.wc cn5 dead5 with po:=x',ta:=λw=>if w=y.toNat then ⟨C4 (S3.ta y.toNat).ids (⟨lo,hi⟩:K2) (L[k]).n.ID⟩ else S3.ta w} (λi=>rfA S1.po i+B.mu ⟨x,(L[k]).n.Lo,(L[k]).n.Hi⟩ i):=by
  refine⟨hI',?_,λi d hi=>?_,?_⟩
  .show B.Cn (tbl x') x'.at_.length (cnA cn5) _;rw[t3,hlen];refine k1.congr λi _=>?_;simp only[B.mu];omega
  .have hi:tbl x' i=some d:=hi;rw[t3]at hi;simp only at hi;split at hi
   .rename_i e;rw[e];exact c5.ln _ _ hund
   .exact c5.ln _ _ hi
  .show dead5=B.sm x'.at_.length (B.zr (tbl x') (cnA cn5));rw[t3,hlen];exact c5.dead.trans k2.symm
 have dag7:=t2.mix.dag c.si.C6 Sto.P4 c.hx c.hy c.hxy;have kl:=okN _ (c.si.kids _ _ hd).1 t2;have kh:=okN _ (c.si.kids _ _ hd).2 t2;simp only at kl kh;refine Sw (S:={S3.wc cn5 dead5 with po:=x',ta:=λw=>if w=y.toNat then ⟨C4 (S3.ta y.toNat).ids (⟨lo,hi⟩:K2) (L[k]).n.ID⟩ else S3.ta w}) (rk:=B.mrk (lvA S1.lv) (tbl S1.po) x y) (n:=3*S1.n) (3*S1.n+1).toNat dag7 (fuel dag7 kl) s7 c7 kl (λi d _=>?_) λcn8 dead8 H8 s8 c8 f8=>?_
 .have:=c.si.rf i;have:=@B.Ku (L[k]).n.Hi i;simp only[B.mu];omega
 refine Sw (S:=Sto.wc {S3.wc cn5 dead5 with po:=x',ta:=λw=>if w=y.toNat then ⟨C4 (S3.ta y.toNat).ids (⟨lo,hi⟩:K2) (L[k]).n.ID⟩ else S3.ta w} cn8 dead8) (rk:=B.mrk (lvA S1.lv) (tbl S1.po) x y) (n:=3*S1.n) (3*S1.n+1).toNat dag7 (fuel dag7 kh) s8 c8 kh (λi d _=>?_) λcn9 dead9 H9 s9 c9 f9=>?_
 .have:=c.si.rf i;have:=@B.Ku (L[k]).n.Lo i;simp only[B.mu];omega
 refine h _ H9 (t2.wc cn9 dead9) ⟨c9.po,c9.cn.congr λi _=>?_,c9.ln,c9.dead⟩ s9 ?_ (v3.trans v2)
 .simp only[B.mu];omega
 .have g1:=f2.trans f3 (m2.bl.trans m.bl.symm) (m2.bp.trans m.bp.symm) (m2.tb.trans m.tb.symm);have q1:=m3.bl.trans m.bl.symm;have q2:=m3.bp.trans m.bp.symm;have q3:=m3.tb.trans m.tb.symm;exact(((((g1.trans f4 q1 q2 q3).trans f5 q1 q2 q3).trans f6 q1 q2 q3).trans f7 q1 q2 q3).trans f8 q1 q2 q3).trans f9 q1 q2 q3
end
end
section
structure Chg(S S':Sto):Prop where
 tb:S'.tb=S.tb
 bl:S'.bl=S.bl
 bp:S'.bp=S.bp
 room:S'.po.room=S.po.room
 rf:∀j,rfA S'.po j=rfA S.po j
 ok:∀e,B.Ok (tbl S.po) e->(e/2=0∨0<rfA S.po (e/2))->B.Ok (tbl S'.po) e/\B.den (tbl S'.po) e=B.den (tbl S.po) e
variable {S:Sto}
theorem Chg.refl:Chg S S:=⟨rfl,rfl,rfl,rfl,λ_=>rfl,λ_ h _=>⟨h,rfl⟩⟩
variable {S':Sto}
theorem Chg.trans{S'':Sto}(h:Chg S S')(k:Chg S' S''):Chg S S'':=⟨k.tb.trans h.tb,k.bl.trans h.bl,k.bp.trans h.bp,k.room.trans h.room,λj=>(k.rf j).trans (h.rf j),λe he hr=>by obtain⟨h1,h2⟩:=h.ok e he hr;obtain⟨h3,h4⟩:=k.ok e h1 (by rw[h.rf];exact hr);exact⟨h3,h4.trans h2⟩⟩
theorem Ahz(h:SI S)(c:Clt S S'):∀i d,tbl S'.po i=some d->0<cnA S'.cn i:=λi d hd=>by
 rw[c.tbl]at hd;split at hd
 .cases hd
 .have:=h.sc.cn.nn hd;rw[c.cn];omega
theorem Afo(h:SI S)(h':SI S')(c:Clt S S'):Chg S S':=by
 have hsub:∀i d,tbl S'.po i=some d->tbl S.po i=some d:=λi d hd=>by
  rw[c.tbl]at hd;split at hd
  .cases hd
  .exact hd
 have hcut:=h.C6.cut Sto.P4 hsub h'.kids;refine⟨c.tb,c.bl,c.bp,c.room,c.rf,λe he hr=>?_⟩;have ho:B.Ok (tbl S'.po) e:=by
  refine⟨he.1,?_⟩;rcases hr with hr|hr
  .exact .inl hr
  .rcases he.2 with h0|⟨d,hd⟩
   .exact .inl h0
   .have:=h.sc.cn.ge hd;exact .inr ⟨d,by rw[c.tbl,if_neg (by omega)];exact hd⟩
 exact⟨ho,(hcut.2 e ho).1⟩
section
variable {S1:Sto} {x y:Int} {L:List A9} {K:List K2}
structure Ctt(S1:Sto)(lv2:Bd)(x:Int)(L:List A9)(k:Nat)(S:Sto):Prop where
 eq:S={S1 with lv:=lv2,ta:=S.ta}
 tn:∀v:Nat,v<S1.tb.length->mnd (S.ta v).ids
 tx:∀lo hi i,Ac (S.ta x.toNat).ids (⟨lo,hi⟩:K2)=some i↔tbl S1.po i=some ⟨x,lo,hi⟩/\¬∃t∈L.take k,t.n.ID=i
 tv:∀v:Nat,v<S1.tb.length->(v:Int)≠x->∀lo hi i,Ac (S.ta v).ids (⟨lo,hi⟩:K2)=some i↔tbl S1.po i=some ⟨(v:Int),lo,hi⟩
variable {k:Nat} {S:Sto}
theorem Ctt.step{lv2:Bd}(c:Cx S1 x y L K)(h:Ctt S1 lv2 x L k S)(hk:k<L.length):Ac (S.ta x.toNat).ids (⟨(L[k]).n.Lo,(L[k]).n.Hi⟩:K2)=some (L[k]).n.ID/\Ctt S1 lv2 x L (k+1) {S with ta:=λw=>if w=x.toNat then ⟨Ez (S.ta x.toNat).ids (⟨(L[k]).n.Lo,(L[k]).n.Hi⟩:K2)⟩ else S.ta w}:=by
 have hmem:L[k]∈L.drop k:=by rw[List.drop_eq_getElem_cons hk];exact List.mem_cons_self
 have hx':x.toNat<S1.tb.length:=by have:=c.hx;unfold Sto.n at this;omega
 have hd:=(c.tn (List.mem_of_mem_drop hmem)).1.1;have hnot:¬∃t∈L.take k,t.n.ID=(L[k]).n.ID:=λ⟨s,hs,e⟩=>Abs c.nd hs hmem e;refine⟨(h.tx _ _ _).2 ⟨hd,hnot⟩,?_,λv hv=>?_,λlo hi i=>?_,λv hv hvx lo hi i=>?_⟩
 .rw[h.eq]
 .show mnd (if v=x.toNat then (⟨_⟩:Ay) else S.ta v).ids;split
  .exact Abx (h.tn _ hx') _
  .exact h.tn v hv
 .show Ac (if x.toNat=x.toNat then (⟨_⟩:Ay) else S.ta x.toNat).ids _=some i↔_;rw[if_pos rfl];simp only;rw[Nc (h.tn _ hx'),Ar0 hk];by_cases ek:(⟨lo,hi⟩:K2)=⟨(L[k]).n.Lo,(L[k]).n.Hi⟩
  .rw[if_pos ek];obtain⟨rfl,rfl⟩:lo=(L[k]).n.Lo/\hi=(L[k]).n.Hi:=by injection ek with a b;exact⟨a,b⟩
   constructor
   .intro e;cases e
   .rintro⟨h1,h2⟩;exact absurd (.inr (c.si.C6.uni h1 hd)) h2
  .rw[if_neg ek,h.tx];constructor
   .rintro⟨h1,h2⟩;refine⟨h1,λh3=>h3.elim h2 λe=>ek ?_⟩;rw[e,hd]at h1;have h3:=Option.some.inj h1;rw[show lo=_ from (congrArg B.Nd.lo h3).symm,show hi=_ from (congrArg B.Nd.hi h3).symm]
   .rintro⟨h1,h2⟩;exact⟨h1,λh3=>h2 (.inl h3)⟩
 .show Ac (if v=x.toNat then (⟨_⟩:Ay) else S.ta v).ids _=some i↔_;rw[if_neg (by have:=c.hx;omega)];exact h.tv v hv hvx lo hi i
theorem Ctt.mid{lv2:Bd}(c:Cx S1 x y L K)(h:Ctt S1 lv2 x L L.length S):Mid S1 x y L K 0 S/\SC S (rfA S1.po):=by
 have e:=h.eq;have epo:S.po=S1.po:=by rw[e]
 have f:(λi:Int=>∃t∈L.take 0,t.n.ID=i)=λ_=>False:=by funext i;simp
 refine⟨⟨by rw[f,epo];exact B.Mix.start c.si.C6,λj=>by rw[epo],by rw[e],by rw[e],by rw[e],by rw[epo],h.tn,λlo hi i=>?_,λv hv hvx lo hi i=>by rw[epo];exact h.tv v hv hvx lo hi i,[],List.nodup_nil,fun κ hκ=>absurd hκ List.not_mem_nil,by rw[epo];simp⟩,?_⟩
 .rw[h.tx,epo,List.take_length];rfl
 .have hc:=c.si.sc;refine⟨by rw[epo];exact hc.po,?_,?_,?_⟩
  .rw[epo,show S.cn=S1.cn by rw[e]];exact hc.cn
  .rw[epo,show S.cn=S1.cn by rw[e]];exact hc.ln
  .rw[epo,show S.cn=S1.cn by rw[e],show S.dead=S1.dead by rw[e]];exact hc.dead
theorem A3y{lv:Bd}(hx:0<=x/\x.toNat<lv.level.length)(hy:0<=y/\y.toNat<lv.level.length)(hne:x≠y)(ex:lvA lv x=k)(ey:lvA lv y=k+1):lvA (swL lv k x y)=B.sw (lvA lv) x y:=by
 funext v;unfold B.sw;by_cases vx:v=x
 .subst vx;rw[if_pos rfl,ey];unfold lvA swL;simp only;rw[if_pos hx.1,List.getElem?_set_ne (by omega),List.getElem?_set_self hx.2];rfl
 .rw[if_neg vx];by_cases vy:v=y
  .subst vy;rw[if_pos rfl,ex];unfold lvA swL;simp only;rw[if_pos hy.1,List.getElem?_set_self (by simpa using hy.2)];rfl
  .rw[if_neg vy];unfold lvA swL;simp only;split
   .rw[List.getElem?_set_ne (by omega),List.getElem?_set_ne (by omega)]
   .rfl
theorem Mid.si(c:Cx S1 x y L K)(hkx:S1.lv.vars[k]?=some x)(hky:S1.lv.vars[k+1]?=some y)(m:Mid S1 x y L K L.length S)(hC:SC S (rfA S1.po))(hlv:S.lv=swL S1.lv k x y):SI S/\Chg S1 S:=by
 have hne:x≠y:=λe=>by have:=c.hxy;rw[e]at this;omega
 have hn:S.n=S1.n:=by unfold Sto.n;rw[m.tb]
 have ix:=c.si.inv k x hkx;have iy:=c.si.inv (k+1) y hky;have hxl:0<=x/\x.toNat<S1.lv.level.length:=⟨c.hx.1,by rw[c.si.ll];have:=c.hx;unfold Sto.n at this;omega⟩
 have hyl:0<=y/\y.toNat<S1.lv.level.length:=⟨c.hy.1,by rw[c.si.ll];have:=c.hy;unfold Sto.n at this;omega⟩
 have hsw:lvA S.lv=B.sw (lvA S1.lv) x y:=by rw[hlv];exact A3y hxl hyl hne ix.2.2 (by rw[iy.2.2];omega)
 have swp:=m.mix.swp λ{i d}ht=>by obtain⟨n,hn,h1,h2,h3⟩:=Kd ht.1;obtain⟨t,ht',e⟩:=c.all i n hn (h1.trans ht.2.1) (by rw[h2,h3];exact ht.2.2);refine⟨t,by rw[List.take_length];exact ht',?_⟩;rw[e];exact c.si.sc.po.id _ _ hn
 obtain⟨g1,g2,g3⟩:=c.si.C6.swap Sto.P4 c.hx c.hy c.hxy swp;have hrf:rfA S.po=rfA S1.po:=funext m.rf;have hvl:S.lv.vars.length=S1.lv.vars.length:=by rw[hlv];simp [swL]
 refine⟨⟨by rw[hrf];exact hC,by rw[hn,hsw];exact g1,by rw[hvl,m.tb];exact c.si.vl,by rw[hlv,m.tb];simpa [swL] using c.si.ll,λl v hl=>?_,λv hv=>m.tn v (by rw[<-m.tb];exact hv),λv hv lo hi i=>?_,λi=>by rw[hrf];exact c.si.rf i⟩,m.tb,m.bl,m.bp,m.room,m.rf,λe he _=>⟨g2 e he,g3 e he⟩⟩
 .rw[hn,hsw];rw[hlv]at hl;have hl:((S1.lv.vars.set k y).set (k+1) x)[l]?=some v:=hl;have hkl:=(List.getElem?_eq_some_iff.1 hkx).1;have hkl1:=(List.getElem?_eq_some_iff.1 hky).1;by_cases e1:l=k+1
  .subst e1;rw[List.getElem?_set_self (by simpa using hkl1)]at hl;cases hl;refine⟨c.hx.1,c.hx.2,?_⟩;rw[B.Aii,iy.2.2]
  .rw[List.getElem?_set_ne (Ne.symm e1)]at hl;by_cases e2:l=k
   .subst e2;rw[List.getElem?_set_self hkl]at hl;cases hl;refine⟨c.hy.1,c.hy.2,?_⟩;rw[B.Ak5 hne,ix.2.2]
   .rw[List.getElem?_set_ne (Ne.symm e2)]at hl;obtain⟨h1,h2,h3⟩:=c.si.inv l v hl;refine⟨h1,h2,?_⟩;rw[B.Ak6,h3]
    .intro e;rw[e,ix.2.2]at h3;omega
    .intro e;rw[e,iy.2.2]at h3;omega
 .rw[m.tb]at hv;by_cases e:(v:Int)=x
  .have hvx:v=x.toNat:=by omega
   rw[e,hvx,m.tx,List.drop_length];simp
  .exact m.tv v hv e lo hi i
end
end
end Go.Proofs.YtcbkbpjlbmalmaaGreatDoor
