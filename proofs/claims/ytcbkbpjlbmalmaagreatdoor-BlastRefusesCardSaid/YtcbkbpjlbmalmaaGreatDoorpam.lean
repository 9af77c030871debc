/-
  The functions that only reckon: edges, letters, comparisons. (Merged by program out of 5 texts.)
-/
import Derived.Test.YtcbkbpjlbmalmaaGreatDoorpal
namespace Go.B
section
abbrev As:=Int->Bool
abbrev Fn:=As->Bool
structure Nd where
 v:Int
 lo:Int
 hi:Int
deriving DecidableEq
abbrev Tb:=Int->Option Nd
def ev(N:Tb):Nat->Int->As->Bool
 |0,_,_=>false
 |k+1,e,a=>if e/2=0 then decide (e%2=0) else match N (e/2) with
  |none=>false
  |some d=>(decide (e%2=1)) ^^ ev N k (if a d.v=true then d.hi else d.lo) a
def den(N:Tb)(e:Int):Fn:=ev N 65 e
structure Od(n:Int)(lv:Int->Int):Prop where
 n64:n<=64
 rng:∀v,0<=v->v<n->0<=lv v/\lv v<n
 inj:∀v w,0<=v->v<n->0<=w->w<n->lv v=lv w->v=w
def el(n:Int)(lv:Int->Int)(N:Tb)(e:Int):Int:=if e/2=0 then n else match N (e/2) with
 |none=>n
 |some d=>lv d.v
def Ok(N:Tb)(e:Int):Prop:=0<=e/\(e/2=0∨∃d,N (e/2)=some d)
structure Good(n:Int)(lv:Int->Int)(N:Tb):Prop where
 od:Od n lv
 var:∀{i d},N i=some d->0<i/\0<=d.v/\d.v<n
 lo:∀{i d},N i=some d->Ok N d.lo/\lv d.v<el n lv N d.lo
 hi:∀{i d},N i=some d->Ok N d.hi/\lv d.v<el n lv N d.hi
 ne:∀{i d},N i=some d->d.lo≠d.hi
 reg:∀{i d},N i=some d->d.hi%2=0
 uni:∀{i j d},N i=some d->N j=some d->i=j
section
variable {n:Int} {lv:Int->Int} {N:Tb}
variable {e:Int}
theorem Dt(h:e/2=0):el n lv N e=n:=by unfold el;rw[if_pos h]
variable {d:Nd}
theorem Bz(h:e/2≠0)(hd:N (e/2)=some d):el n lv N e=lv d.v:=by unfold el;rw[if_neg h,hd]
theorem Good.Ahl(g:Good n lv N)(h:Ok N e)(hn:0<=n):0<=el n lv N e/\el n lv N e<=n:=by
 rcases h.2 with h0|⟨d,hd⟩
 .rw[Dt h0];omega
 .by_cases h0:e/2=0
  .rw[Dt h0];omega
  .rw[Bz h0 hd];have:=g.var hd;have:=g.od.rng d.v this.2.1 this.2.2;omega
variable {k:Nat} {a:As}
theorem P8(h:e/2=0):ev N (k+1) e a=decide (e%2=0):=by simp only[ev];rw[if_pos h]
theorem Sk(h:e/2≠0)(hd:N (e/2)=some d):ev N (k+1) e a=((decide (e%2=1)) ^^ ev N k (if a d.v=true then d.hi else d.lo) a):=by simp only[ev];rw[if_neg h,hd]
variable {M:Tb}
theorem Good.Ahj(g:Good n lv N)(hM:∀i d,N i=some d->M i=some d):∀(k m:Nat)(e:Int)(a:As),Ok N e->n-el n lv N e<k->n-el n lv N e<m->ev M m e a=ev N k e a
 |0,m,e,a,h,hk,hm=>by
  exfalso;rcases h.2 with h0|⟨d,hd⟩
  .rw[Dt h0]at hk;omega
  .by_cases h0:e/2=0
   .rw[Dt h0]at hk;omega
   .rw[Bz h0 hd]at hk;have:=g.var hd;have:=g.od.rng d.v this.2.1 this.2.2;omega
 |k+1,0,e,a,h,hk,hm=>by
  exfalso;rcases h.2 with h0|⟨d,hd⟩
  .rw[Dt h0]at hm;omega
  .by_cases h0:e/2=0
   .rw[Dt h0]at hm;omega
   .rw[Bz h0 hd]at hm;have:=g.var hd;have:=g.od.rng d.v this.2.1 this.2.2;omega
 |k+1,m+1,e,a,h,hk,hm=>by
  by_cases h0:e/2=0
  .rw[P8 h0,P8 h0]
  .obtain⟨d,hd⟩:=h.2.resolve_left h0;rw[Sk h0 hd,Sk h0 (hM _ _ hd)];rw[Bz h0 hd]at hk hm;congr 1;obtain⟨l1,l2⟩:=g.lo hd;obtain⟨u1,u2⟩:=g.hi hd;split
   .exact g.Ahj hM k m _ a u1 (by omega) (by omega)
   .exact g.Ahj hM k m _ a l1 (by omega) (by omega)
theorem Good.fuel(g:Good n lv N)(hn:0<=n)(h:Ok N e):n-el n lv N e<65:=by have:=g.Ahl h hn;have:=g.od.n64;omega
theorem Good.Atf(g:Good n lv N)(hn:0<=n)(hM:∀i d,N i=some d->M i=some d)(h:Ok N e):den M e=den N e:=by funext a;exact g.Ahj hM 65 65 e a h (g.fuel hn h) (g.fuel hn h)
theorem Ok.ext(hM:∀i d,N i=some d->M i=some d)(h:Ok N e):Ok M e:=⟨h.1,h.2.imp id λ⟨d,hd⟩=>⟨d,hM _ _ hd⟩⟩
theorem Xd(hM:∀i d,N i=some d->M i=some d)(h:Ok N e):el n lv M e=el n lv N e:=by
 by_cases h0:e/2=0
 .rw[Dt h0,Dt h0]
 .obtain⟨d,hd⟩:=h.2.resolve_left h0;rw[Bz h0 hd,Bz h0 (hM _ _ hd)]
theorem Uc(h:e/2=0):den N e=λ_=>decide (e%2=0):=by funext a;exact P8 h
theorem Pq:den N 0=λ_=>true:=by rw[Uc (by decide)];rfl
theorem Jo:den N 1=λ_=>false:=by rw[Uc (by decide)];rfl
theorem Good.N5(g:Good n lv N)(hn:0<=n)(h0:e/2≠0)(hd:N (e/2)=some d)(a:As):den N e a=((decide (e%2=1)) ^^ (if a d.v=true then den N d.hi a else den N d.lo a)):=by
 have hl:=g.lo hd;have hh:=g.hi hd;have hv:=g.var hd;have hr:=g.od.rng d.v hv.2.1 hv.2.2;have h64:=g.od.n64;unfold den;rw[Sk (k:=64) h0 hd];congr 1;split
 .exact(g.Ahj (λ_ _ h=>h) 65 64 _ a hh.1 (by omega) (by omega))
 .exact(g.Ahj (λ_ _ h=>h) 65 64 _ a hl.1 (by omega) (by omega))
def flip(e:Int):Int:=if e%2=0 then e+1 else e-1
theorem Rr:flip e/2=e/2:=by unfold flip;split<;>omega
theorem Acb:flip e%2=1-e%2:=by unfold flip;split<;>omega
theorem flip_flip:flip (flip e)=e:=by unfold flip;split<;>split<;>omega
theorem Aoy(h:0<=e):0<=flip e:=by unfold flip;split<;>omega
theorem Ok.flip(h:Ok N e):Ok N (flip e):=⟨Aoy h.1,by rw[Rr];exact h.2⟩
theorem A10:el n lv N (flip e)=el n lv N e:=by unfold el;rw[Rr]
theorem A1y(h:Ok N e):ev N (k+1) (flip e) a=!(ev N (k+1) e a):=by
 by_cases h0:e/2=0
 .rw[P8 h0,P8 (by rw[Rr];exact h0),Acb];rcases Int.emod_two_eq e with h1|h1<;>simp [h1]
 .obtain⟨d,hd⟩:=h.2.resolve_left h0;rw[Sk h0 hd,Sk (by rw[Rr];exact h0) (by rw[Rr];exact hd),Acb];rcases Int.emod_two_eq e with h1|h1<;>simp [h1]
theorem Rw(h:Ok N e):den N (flip e)=λa=>!(den N e a):=by funext a;exact A1y h
theorem Good.Aq1(g:Good n lv N):∀(k:Nat)(e:Int)(a b:As),Ok N e->(∀v,0<=v->v<n->el n lv N e<=lv v->a v=b v)->ev N k e a=ev N k e b
 |0,_,_,_,_,_=>rfl
 |k+1,e,a,b,h,hab=>by
  by_cases h0:e/2=0
  .rw[P8 h0,P8 h0]
  .obtain⟨d,hd⟩:=h.2.resolve_left h0;rw[Sk h0 hd,Sk h0 hd];rw[Bz h0 hd]at hab;have hv:=g.var hd;obtain⟨l1,l2⟩:=g.lo hd;obtain⟨u1,u2⟩:=g.hi hd;rw[<-hab d.v hv.2.1 hv.2.2 (Int.le_refl _)];congr 1;split
   .exact g.Aq1 k _ a b u1 λv h1 h2 h3=>hab v h1 h2 (by omega)
   .exact g.Aq1 k _ a b l1 λv h1 h2 h3=>hab v h1 h2 (by omega)
theorem Good.Acn(g:Good n lv N){b:As}(h:Ok N e)(hab:∀v,0<=v->v<n->el n lv N e<=lv v->a v=b v):den N e a=den N e b:=g.Aq1 65 e a b h hab
def Ank(a:As)(v:Int)(b:Bool):As:=λw=>if w=v then b else a w
variable {v:Int} {b:Bool}
theorem Xt:Ank a v b v=b:=if_pos rfl
theorem A0l{w:Int}(h:w≠v):Ank a v b w=a w:=if_neg h
theorem Good.X9(g:Good n lv N)(h:Ok N e)(hv0:0<=v)(hvn:v<n)(hl:lv v<el n lv N e):den N e (Ank a v b)=den N e a:=by refine g.Acn h λw h1 h2 h3=>A0l ?_;intro e;subst e;omega
theorem Good.Ayv(g:Good n lv N):∀(k:Nat)(e:Int),Ok N e->n-el n lv N e<k->ev N k e (λ_=>true)=decide (e%2=0)
 |0,e,h,hk=>by
  exfalso;rcases h.2 with h0|⟨d,hd⟩
  .rw[Dt h0]at hk;omega
  .by_cases h0:e/2=0
   .rw[Dt h0]at hk;omega
   .rw[Bz h0 hd]at hk;have:=g.var hd;have:=g.od.rng d.v this.2.1 this.2.2;omega
 |k+1,e,h,hk=>by
  by_cases h0:e/2=0
  .rw[P8 h0]
  .obtain⟨d,hd⟩:=h.2.resolve_left h0;rw[Sk h0 hd];rw[Bz h0 hd]at hk;obtain⟨u1,u2⟩:=g.hi hd;rw[if_pos rfl,g.Ayv k d.hi u1 (by omega),g.reg hd];rcases Int.emod_two_eq e with h1|h1<;>simp [h1]
theorem Good.Afm(g:Good n lv N)(hn:0<=n)(h:Ok N e):den N e (λ_=>true)=decide (e%2=0):=g.Ayv 65 e h (g.fuel hn h)
variable {f:Int}
theorem Good.sign(g:Good n lv N)(hn:0<=n)(he:Ok N e)(hf:Ok N f)(h:den N e=den N f):e%2=f%2:=by have h1:=g.Afm hn he;have h2:=g.Afm hn hf;rw[h,h2]at h1;rcases Int.emod_two_eq e with h3|h3<;>rcases Int.emod_two_eq f with h4|h4<;>simp [h3,h4]at h1 ⊢
theorem Good.cof(g:Good n lv N)(hn:0<=n)(h0:e/2≠0)(hd:N (e/2)=some d)(b:Bool)(a:As):den N e (Ank a d.v b)=((decide (e%2=1)) ^^ den N (if b=true then d.hi else d.lo) a):=by have hv:=g.var hd;obtain⟨l1,l2⟩:=g.lo hd;obtain⟨u1,u2⟩:=g.hi hd;rw[g.N5 hn h0 hd,Xt,g.X9 u1 hv.2.1 hv.2.2 u2,g.X9 l1 hv.2.1 hv.2.2 l2];cases b<;>rfl
theorem xor_left_inj{a c:Bool}(h:(a ^^ b)=(a ^^ c)):b=c:=by cases a<;>cases b<;>cases c<;>simp_all
theorem Good.canon(g:Good n lv N)(hn:0<=n):∀(k:Nat)(e f:Int),Ok N e->Ok N f->n-el n lv N e<k->n-el n lv N f<k->den N e=den N f->e=f
 |0,e,f,he,_,hk,_,_=>by have:=g.Ahl he hn;omega
 |k+1,e,f,he,hf,hke,hkf,h=>by
  have hs:=g.sign hn he hf h;have key:∀{e f:Int},Ok N e->Ok N f->n-el n lv N e<k+1->den N e=den N f->el n lv N e<el n lv N f->False:=by
   intro e f he hf hke h hlt;have h0:e/2≠0:=λh0=>by rw[Dt h0]at hlt;have:=g.Ahl hf hn;omega
   obtain⟨d,hd⟩:=he.2.resolve_left h0;have hv:=g.var hd;rw[Bz h0 hd]at hlt hke;obtain⟨l1,l2⟩:=g.lo hd;obtain⟨u1,u2⟩:=g.hi hd;refine g.ne hd (g.canon hn k d.lo d.hi l1 u1 (by omega) (by omega) ?_);funext a;have h1:=g.cof hn h0 hd false a;have h2:=g.cof hn h0 hd true a;rw[h,g.X9 hf hv.2.1 hv.2.2 hlt]at h1 h2;exact xor_left_inj (h1.symm.trans h2)
  have hle:el n lv N e=el n lv N f:=by
   rcases Int.lt_trichotomy (el n lv N e) (el n lv N f) with h1|h1|h1
   .exact(key he hf hke h h1).elim
   .exact h1
   .exact(key hf he hkf h.symm h1).elim
  by_cases h0:e/2=0
  .by_cases h1:f/2=0
   .omega
   .obtain⟨d,hd⟩:=hf.2.resolve_left h1;rw[Dt h0,Bz h1 hd]at hle;have hv:=g.var hd;have:=g.od.rng d.v hv.2.1 hv.2.2;omega
  .obtain⟨d,hd⟩:=he.2.resolve_left h0;by_cases h1:f/2=0
   .rw[Dt h1,Bz h0 hd]at hle;have hv:=g.var hd;have:=g.od.rng d.v hv.2.1 hv.2.2;omega
   .obtain⟨d',hd'⟩:=hf.2.resolve_left h1;rw[Bz h0 hd,Bz h1 hd']at hle;rw[Bz h0 hd]at hke;rw[Bz h1 hd']at hkf;have hv:=g.var hd;have hv':=g.var hd';have hvv:=g.od.inj _ _ hv.2.1 hv.2.2 hv'.2.1 hv'.2.2 hle;obtain⟨l1,l2⟩:=g.lo hd;obtain⟨u1,u2⟩:=g.hi hd;obtain⟨l1',l2'⟩:=g.lo hd';obtain⟨u1',u2'⟩:=g.hi hd';have hc:∀b:Bool,den N (if b=true then d.hi else d.lo)=den N (if b=true then d'.hi else d'.lo):=λb=>by funext a;have h2:=g.cof hn h0 hd b a;have h3:=g.cof hn h1 hd' b a;rw[<-hvv,<-h,h2,hs]at h3;exact xor_left_inj h3
    have hlo:d.lo=d'.lo:=g.canon hn k _ _ l1 l1' (by omega) (by omega) (hc false);have hhi:d.hi=d'.hi:=g.canon hn k _ _ u1 u1' (by omega) (by omega) (hc true);have hdd:d=d':=by cases d;cases d';simp_all
    subst hdd;have:=g.uni hd hd';omega
theorem Good.eq(g:Good n lv N)(hn:0<=n)(he:Ok N e)(hf:Ok N f)(h:den N e=den N f):e=f:=g.canon hn 65 e f he hf (g.fuel hn he) (g.fuel hn hf) h
theorem Good.eq_iff(g:Good n lv N)(hn:0<=n)(he:Ok N e)(hf:Ok N f):e=f↔den N e=den N f:=⟨λh=>by rw[h],g.eq hn he hf⟩
theorem Aff:Ok N 0:=⟨by omega,.inl (by decide)⟩
theorem ok_one:Ok N 1:=⟨by omega,.inl (by decide)⟩
def Oa(N:Tb)(i:Int)(d:Nd):Tb:=λj=>if j=i then some d else N j
variable {i:Int}
theorem Ad4:Oa N i d i=some d:=if_pos rfl
theorem Acv(h:N i=none):∀j c,N j=some c->Oa N i d j=some c:=by intro j c hj;unfold Oa;rw[if_neg];exact hj;intro e;subst e;rw[h]at hj;cases hj
theorem Good.add(g:Good n lv N){lo hi:Int}(hi0:0<i)(hfree:N i=none)(hv0:0<=v)(hvn:v<n)(hlo:Ok N lo)(hhi:Ok N hi)(hl:lv v<el n lv N lo)(hh:lv v<el n lv N hi)(hne:lo≠hi)(hreg:hi%2=0)(hnew:∀j,N j≠some ⟨v,lo,hi⟩):Good n lv (Oa N i ⟨v,lo,hi⟩):=by
 have hx:=Acv (d:=⟨v,lo,hi⟩) hfree;have cs:∀{j d},Oa N i ⟨v,lo,hi⟩ j=some d->(j=i/\d=⟨v,lo,hi⟩)∨N j=some d:=by
  intro j d h;unfold Oa at h;split at h
  .rename_i e;cases h;exact .inl ⟨e,rfl⟩
  .exact .inr h
 refine⟨g.od,?_,?_,?_,?_,?_,?_⟩
 .intro j d h;rcases cs h with ⟨rfl,rfl⟩|h
  .exact⟨hi0,hv0,hvn⟩
  .exact g.var h
 .intro j d h;rcases cs h with ⟨rfl,rfl⟩|h
  .exact⟨hlo.ext hx,by rw[Xd hx hlo];exact hl⟩
  .have:=g.lo h;exact⟨this.1.ext hx,by rw[Xd hx this.1];exact this.2⟩
 .intro j d h;rcases cs h with ⟨rfl,rfl⟩|h
  .exact⟨hhi.ext hx,by rw[Xd hx hhi];exact hh⟩
  .have:=g.hi h;exact⟨this.1.ext hx,by rw[Xd hx this.1];exact this.2⟩
 .intro j d h;rcases cs h with ⟨rfl,rfl⟩|h
  .exact hne
  .exact g.ne h
 .intro j d h;rcases cs h with ⟨rfl,rfl⟩|h
  .exact hreg
  .exact g.reg h
 .intro j k d h1 h2;rcases cs h1 with ⟨e1,e2⟩|h1<;>rcases cs h2 with ⟨e3,e4⟩|h2
  .rw[e1,e3]
  .rw[e2]at h2;exact(hnew _ h2).elim
  .rw[e4]at h1;exact(hnew _ h1).elim
  .exact g.uni h1 h2
theorem Good.cut(g:Good n lv N)(hn:0<=n)(hM:∀i d,M i=some d->N i=some d)(hc:∀i d,M i=some d->Ok M d.lo/\Ok M d.hi):Good n lv M/\∀e,Ok M e->den M e=den N e/\el n lv M e=el n lv N e:=by
 have hg:Good n lv M:=by
  refine⟨g.od,λh=>g.var (hM _ _ h),λh=>?_,λh=>?_,λh=>g.ne (hM _ _ h),λh=>g.reg (hM _ _ h),λh1 h2=>g.uni (hM _ _ h1) (hM _ _ h2)⟩
  .have h1:=(hc _ _ h).1;exact⟨h1,by rw[<-Xd hM h1];exact(g.lo (hM _ _ h)).2⟩
  .have h1:=(hc _ _ h).2;exact⟨h1,by rw[<-Xd hM h1];exact(g.hi (hM _ _ h)).2⟩
 exact⟨hg,λe he=>⟨(hg.Atf hn hM he).symm,(Xd hM he).symm⟩⟩
end
end
section
def sm:Nat->(Int->Int)->Int
 |0,_=>0
 |k+1,f=>sm k f+f k
theorem Il{f g:Int->Int}:∀{m:Nat},(∀k:Int,0<=k->k<m->f k=g k)->sm m f=sm m g
 |0,_=>rfl
 |m+1,h=>by show sm m f+f m=sm m g+g m;rw[Il (m:=m) λk h0 h1=>h k h0 (by omega),h m (by omega) (by omega)]
theorem Awl{f g:Int->Int}:∀{m:Nat},sm m (λk=>f k+g k)=sm m f+sm m g
 |0=>rfl
 |m+1=>by show sm m _+(f m+g m)=(sm m f+f m)+(sm m g+g m);rw[Awl (m:=m)];omega
theorem Ac9{f:Int->Int}:∀{m:Nat},(∀k:Int,0<=k->k<m->0<=f k)->0<=sm m f
 |0,_=>Int.le_refl _
 |m+1,h=>by show 0<=sm m f+f m;have:=Ac9 (m:=m) λk h0 h1=>h k h0 (by omega);have:=h m (by omega) (by omega);omega
theorem Ar2{f g:Int->Int}:∀{m:Nat},(∀k:Int,0<=k->k<m->f k<=g k)->sm m f<=sm m g
 |0,_=>Int.le_refl _
 |m+1,h=>by show sm m f+f m<=sm m g+g m;have:=Ar2 (m:=m) λk h0 h1=>h k h0 (by omega);have:=h m (by omega) (by omega);omega
theorem Afd{m:Nat}:sm m (λ_=>0)=0:=by
 induction m with
 |zero=>rfl
 |succ m ih=>show sm m _+0=0;rw[ih];rfl
theorem Anh{m:Nat}{c:Int}:sm m (λ_=>c)=m*c:=by
 induction m with
 |zero=>show (0:Int)=_;simp
 |succ m ih=>show sm m _+c=_;rw[ih,Int.natCast_add,Int.add_mul];simp
theorem Ap8{i c:Int}:∀{m:Nat},0<=i->i<m->sm m (λk=>if k=i then c else 0)=c
 |0,h0,h1=>by omega
 |m+1,h0,h1=>by
  show sm m _+(if (m:Int)=i then c else 0)=c;by_cases h:(m:Int)=i
  .rw[if_pos h];have:sm m (λk=>if k=i then c else 0)=sm m (λ_=>0):=Il λk h2 h3=>if_neg (by omega);rw[this,Afd];omega
  .rw[if_neg h,Ap8 (m:=m) h0 (by omega)];omega
variable {i:Int}
theorem A22{f:Int->Int}{m:Nat}(h:∀k:Int,0<=k->k<m->0<=f k)(h0:0<=i)(h1:i<m):f i<=sm m f:=by have h2:sm m (λk=>if k=i then f i else 0)=f i:=Ap8 h0 h1;rw[<-h2];exact Ar2 λk h3 h4=>by by_cases e:k=i<;>simp only[e,if_true,if_false]<;>first|exact Int.le_refl _|exact h k h3 h4
theorem Ada{f g:Int->Int}{m:Nat}(h0:0<=i)(h1:i<m)(h:∀k,k≠i->f k=g k):sm m f=sm m g+(f i-g i):=by
 have h2:sm m (λk=>if k=i then f i-g i else 0)=f i-g i:=Ap8 h0 h1;rw[<-h2,<-Awl];refine Il λk _ _=>?_;by_cases e:k=i
 .rw[if_pos e,e];omega
 .rw[if_neg e,h k e];omega
theorem Ala{f:Int->Int}{m:Nat}:∀{q:Nat},m<=q->(∀k:Int,m<=k->k<q->f k=0)->sm q f=sm m f
 |0,h,_=>by
  have:m=0:=by omega
  rw[this]
 |q+1,h,hz=>by
  by_cases e:m=q+1
  .rw[e]
  .show sm q f+f q=_;rw[Ala (q:=q) (by omega) λk h1 h2=>hz k h1 (by omega),hz q (by omega) (by omega)];omega
def dl(f i:Int):Int:=if f/2=i then 1 else 0
def mu(d:Nd)(i:Int):Int:=dl d.lo i+dl d.hi i
theorem Ku{f i:Int}:0<=dl f i/\dl f i<=1:=by unfold dl;split<;>omega
theorem A8e{d:Nd}{i:Int}:0<=mu d i/\mu d i<=2:=by have:=@Ku d.lo i;have:=@Ku d.hi i;unfold mu;omega
theorem Lj{f:Int}:dl f (f/2)=1:=if_pos rfl
theorem Qw{f:Int}(h:i≠f/2):dl f i=0:=if_neg (Ne.symm h)
def pt(N:Tb)(c:Int->Int)(i p:Int):Int:=match N p with
 |some d=>if 0<c p then mu d i else 0
 |none=>0
theorem Awz{N:Tb}{c:Int->Int}{p:Int}:0<=pt N c i p/\pt N c i p<=2:=by
 unfold pt;split
 .rename_i d _;have:=@A8e d i;split<;>omega
 .omega
def zr(N:Tb)(c:Int->Int)(p:Int):Int:=match N p with
 |some _=>if c p=0 then 1 else 0
 |none=>0
structure Cn(N:Tb)(m:Nat)(c r:Int->Int):Prop where
 dom:∀{i d},N i=some d->0<i/\i<m
 nn:∀{i d},N i=some d->0<=c i
 eq:∀{i d},N i=some d->c i=r i+sm m (pt N c i)
section
variable {N:Tb} {m:Nat} {c r:Int->Int}
theorem Auf{i:Int}:0<=sm m (pt N c i):=Ac9 λ_ _ _=>Awz.1
theorem Aug{i:Int}:sm m (pt N c i)<=2*m:=by have h:sm m (pt N c i)<=sm m (λ_=>2):=Ar2 λ_ _ _=>Awz.2;rw[Anh]at h;omega
variable {i:Int} {d:Nd}
theorem Cn.ge(h:Cn N m c r)(hd:N i=some d):r i<=c i:=by have:=h.eq hd;have:=@Auf N m c i;omega
theorem Cn.le(h:Cn N m c r)(hd:N i=some d):c i<=r i+2*m:=by have:=h.eq hd;have:=@Aug N m c i;omega
theorem Cn.congr(h:Cn N m c r){r':Int->Int}(hr:∀i,0<i->r i=r' i):Cn N m c r':=
 ⟨h.dom,h.nn,λhd=>by rw[h.eq hd,hr _ (h.dom hd).1]⟩
variable {p:Int}
theorem Cn.kid(h:Cn N m c r)(hr:∀{i d},N i=some d->0<=r i){d':Nd}(hp:N p=some d)(hc:0<c p)(hi:N i=some d')(hm:i=d.lo/2∨i=d.hi/2):0<c i:=by
 have h1:=h.eq hi;have h2:pt N c i p<=sm m (pt N c i):=A22 (λ_ _ _=>Awz.1) (by have:=h.dom hp;omega) (h.dom hp).2;have h3:pt N c i p=mu d i:=by unfold pt;simp only[hp,hc,if_true]
 have h4:1<=mu d i:=by
  have h5:=@Ku d.lo i;have h6:=@Ku d.hi i;unfold mu;rcases hm with e|e
  .rw[e]at h5 h6 ⊢;have:=@Lj d.lo;omega
  .rw[e]at h5 h6 ⊢;have:=@Lj d.hi;omega
 have:=hr hi;omega
def bump(c:Int->Int)(i x:Int):Int->Int:=λj=>if j=i then c j+x else c j
variable {x:Int}
theorem Jy:bump c i x i=c i+x:=if_pos rfl
variable {j:Int}
theorem Ps(h:j≠i):bump c i x j=c j:=if_neg h
theorem Abi(h:(0<c p)↔0<c p+x):pt N (bump c p x) i j=pt N c i j:=by
 unfold pt;split
 .by_cases e:j=p
  .subst e;rw[Jy];by_cases h1:0<c j
   .rw[if_pos h1,if_pos (h.1 h1)]
   .rw[if_neg h1,if_neg (λh2=>h1 (h.2 h2))]
  .rw[Ps e]
 .rfl
theorem Arp(h:(c p=0)↔c p+x=0):zr N (bump c p x) j=zr N c j:=by
 unfold zr;split
 .by_cases e:j=p
  .subst e;rw[Jy];by_cases h1:c j=0
   .rw[if_pos h1,if_pos (h.1 h1)]
   .rw[if_neg h1,if_neg (λh2=>h1 (h.2 h2))]
  .rw[Ps e]
 .rfl
variable {f:Int}
theorem Cn.A8f(h:Cn N m c r)(hd:N (f/2)=some d)(hc:0<c (f/2)):Cn N m (bump c (f/2) 1) (λi=>r i+dl f i)/\sm m (zr N (bump c (f/2) 1))=sm m (zr N c):=by
 refine⟨⟨h.dom,λ{i d'}hi=>?_,λ{i d'}hi=>?_⟩,Il λk _ _=>Arp (by omega)⟩
 .have:=h.nn hi;unfold bump;split<;>omega
 .rw[Il (g:=pt N c i) λk _ _=>Abi (by omega)];have:=h.eq hi;by_cases e:i=f/2
  .rw[e]at this ⊢;rw[Jy,Lj];omega
  .rw[Ps e,Qw e];omega
theorem Cn.A8g(h:Cn N m c r)(hd:N (f/2)=some d)(hc:c (f/2)=0):Cn N m (bump c (f/2) 1) (λi=>r i+dl f i-mu d i)/\sm m (zr N (bump c (f/2) 1))=sm m (zr N c)-1:=by
 have hm:=h.dom hd;refine⟨⟨h.dom,λ{i d'}hi=>?_,λ{i d'}hi=>?_⟩,?_⟩
 .have:=h.nn hi;unfold bump;split<;>omega
 .have h1:sm m (pt N (bump c (f/2) 1) i)=sm m (pt N c i)+(pt N (bump c (f/2) 1) i (f/2)-pt N c i (f/2)):=Ada (by omega) hm.2 λk hk=>by
   unfold pt;split
   .rw[Ps hk]
   .rfl
  have h2:pt N (bump c (f/2) 1) i (f/2)=mu d i:=by unfold pt;simp only[hd,Jy,hc];rfl
  have h3:pt N c i (f/2)=0:=by unfold pt;simp only[hd,hc];rfl
  rw[h1,h2,h3];have:=h.eq hi;by_cases e:i=f/2
  .rw[e]at this ⊢;rw[Jy,Lj];omega
  .rw[Ps e,Qw e];omega
 .rw[Ada (g:=zr N c) (i:=f/2) (by omega) hm.2 λk hk=>by
   unfold zr;split
   .rw[Ps hk]
   .rfl]
  have h2:zr N (bump c (f/2) 1) (f/2)=0:=by unfold zr;simp only[hd,Jy,hc];rfl
  have h3:zr N c (f/2)=1:=by unfold zr;simp only[hd,hc];rfl
  rw[h2,h3];omega
theorem Cn.A8i(h:Cn N m c r)(hd:N (f/2)=some d)(hc:1<c (f/2)):Cn N m (bump c (f/2) (-1)) (λi=>r i-dl f i)/\sm m (zr N (bump c (f/2) (-1)))=sm m (zr N c):=by
 refine⟨⟨h.dom,λ{i d'}hi=>?_,λ{i d'}hi=>?_⟩,Il λk _ _=>Arp (by omega)⟩
 .have:=h.nn hi;unfold bump;split
  .rename_i e;rw[e];omega
  .omega
 .rw[Il (g:=pt N c i) λk _ _=>Abi (by omega)];have:=h.eq hi;by_cases e:i=f/2
  .rw[e]at this ⊢;rw[Jy,Lj];omega
  .rw[Ps e,Qw e];omega
theorem Cn.A8j(h:Cn N m c r)(hd:N (f/2)=some d)(hc:c (f/2)=1):Cn N m (bump c (f/2) (-1)) (λi=>r i-dl f i+mu d i)/\sm m (zr N (bump c (f/2) (-1)))=sm m (zr N c)+1:=by
 have hm:=h.dom hd;refine⟨⟨h.dom,λ{i d'}hi=>?_,λ{i d'}hi=>?_⟩,?_⟩
 .have:=h.nn hi;unfold bump;split
  .rename_i e;rw[e];omega
  .omega
 .have h1:sm m (pt N (bump c (f/2) (-1)) i)=sm m (pt N c i)+(pt N (bump c (f/2) (-1)) i (f/2)-pt N c i (f/2)):=Ada (by omega) hm.2 λk hk=>by
   unfold pt;split
   .rw[Ps hk]
   .rfl
  have h2:pt N (bump c (f/2) (-1)) i (f/2)=0:=by unfold pt;simp only[hd,Jy,hc];rfl
  have h3:pt N c i (f/2)=mu d i:=by unfold pt;simp only[hd,hc];rfl
  rw[h1,h2,h3];have:=h.eq hi;by_cases e:i=f/2
  .rw[e]at this ⊢;rw[Jy,Lj];omega
  .rw[Ps e,Qw e];omega
 .rw[Ada (g:=zr N c) (i:=f/2) (by omega) hm.2 λk hk=>by
   unfold zr;split
   .rw[Ps hk]
   .rfl]
  have h2:zr N (bump c (f/2) (-1)) (f/2)=1:=by unfold zr;simp only[hd,Jy,hc];rfl
  have h3:zr N c (f/2)=0:=by unfold zr;simp only[hd,hc];rfl
  rw[h2,h3];omega
structure Dag(N:Tb)(rk:Int->Int)(n:Int):Prop where
 rng:∀{i d},N i=some d->0<=rk i/\rk i<n
 lo:∀{i d},N i=some d->Ok N d.lo/\(d.lo/2≠0->rk i<rk (d.lo/2))
 hi:∀{i d},N i=some d->Ok N d.hi/\(d.hi/2≠0->rk i<rk (d.hi/2))
theorem Good.dag{n:Int}{lv:Int->Int}(g:Good n lv N):Dag N (λi=>match N i with|some d=>lv d.v|none=>0) n:=by
 have key:∀{i d e},N i=some d->Ok N e->lv d.v<el n lv N e->(e/2≠0->lv d.v<(match N (e/2) with|some d=>lv d.v|none=>0)):=by intro i d e hd he hl h0;obtain⟨d',hd'⟩:=he.2.resolve_left h0;rw[Bz h0 hd']at hl;simp only[hd'];exact hl
 refine⟨λh=>?_,λh=>?_,λh=>?_⟩
 .have:=g.var h;simp only[h];exact g.od.rng _ this.2.1 this.2.2
 .have:=g.lo h;simp only[h];exact⟨this.1,key h this.1 this.2⟩
 .have:=g.hi h;simp only[h];exact⟨this.1,key h this.1 this.2⟩
end
end
section
def fl(e s:Int):Int:=if s%2=1 then flip e else e
variable {e s:Int}
theorem Aqz:fl e s/2=e/2:=by unfold fl;split;exact Rr;rfl
theorem A3g:fl (fl e s) s=e:=by unfold fl;split;exact flip_flip;rfl
theorem Aaf{f:Int}(h:fl e s=fl f s):e=f:=by rw[<-A3g (e:=e) (s:=s),h,A3g]
theorem Aeg:fl e e%2=0:=by
 unfold fl;split
 .rename_i h;rw[Acb,h];rfl
 .omega
theorem Ayr:fl e s%2=(e+s)%2:=by
 unfold fl;split
 .rw[Acb];omega
 .omega
theorem Ace{t:Int}(h:s%2=t%2):fl e s=fl e t:=by unfold fl;rw[h]
section
variable {n:Int} {lv:Int->Int} {N:Tb}
variable {e s:Int}
theorem Ok.fl(h:Ok N e):Ok N (fl e s):=by unfold B.fl;split;exact h.flip;exact h
theorem Qv:el n lv N (fl e s)=el n lv N e:=by unfold el;rw[Aqz]
theorem N6(h:Ok N e)(a:As):den N (fl e s) a=(decide (s%2=1) ^^ den N e a):=by
 unfold fl;split
 .rename_i hs;rw[Rw h];simp [hs]
 .rename_i hs;simp [hs]
def sp(N:Tb)(y f:Int):Int×Int:=match N (f/2) with
 |some d=>if d.v=y then (fl d.lo f,fl d.hi f) else (f,f)
 |none=>(f,f)
theorem Good.zero(g:Good n lv N):N 0=none:=by
 cases h:N 0 with
 |none=>rfl
 |some d=>have:=(g.var h).1;omega
variable {y f:Int}
theorem Good.Nl(g:Good n lv N)(hn:0<=n)(hy:0<=y/\y<n)(hf:Ok N f)(hl:lv y<=el n lv N f):Ok N (sp N y f).1/\Ok N (sp N y f).2/\lv y<el n lv N (sp N y f).1/\lv y<el n lv N (sp N y f).2/\(∀a,den N f a=if a y=true then den N (sp N y f).2 a else den N (sp N y f).1 a)/\(f%2=0->(sp N y f).2%2=0):=by
 have plain:lv y<el n lv N f->Ok N f/\Ok N f/\lv y<el n lv N f/\lv y<el n lv N f/\(∀a:As,den N f a=if a y=true then den N f a else den N f a)/\(f%2=0->f%2=0):=λh=>⟨hf,hf,h,h,λa=>by split<;>rfl,id⟩
 unfold sp;cases hd:N (f/2) with
 |none=>
  refine plain ?_;have h0:f/2=0:=by
   rcases hf.2 with h|⟨d,h⟩
   .exact h
   .rw[hd]at h;cases h
  rw[Dt h0];exact(g.od.rng y hy.1 hy.2).2
 |some d=>
  have h0:f/2≠0:=λe=>by rw[e,g.zero]at hd;cases hd
  have hv:=g.var hd;simp only;split
  .rename_i e;subst e;obtain⟨l1,l2⟩:=g.lo hd;obtain⟨u1,u2⟩:=g.hi hd;refine⟨l1.fl,u1.fl,by rw[Qv];exact l2,by rw[Qv];exact u2,λa=>?_,λh=>?_⟩
   .rw[g.N5 hn h0 hd,N6 u1,N6 l1];split<;>rfl
   .simp only;rw[Ayr,<-Int.emod_add_emod];have:=g.reg hd;omega
  .rename_i e;refine plain ?_;rw[Bz h0 hd]at hl ⊢;have:lv y≠lv d.v:=λh=>e (g.od.inj _ _ hv.2.1 hv.2.2 hy.1 hy.2 h.symm);omega
def isV(N:Tb)(y f:Int):Prop:=∃d,N (f/2)=some d/\d.v=y
theorem At9(h:¬isV N y f):sp N y f=(f,f):=by
 unfold sp;split
 .rename_i d hd;rw[if_neg λe=>h ⟨d,hd,e⟩]
 .rfl
theorem Good.Ajn(g:Good n lv N):isV N y f↔(sp N y f).1≠(sp N y f).2:=by
 constructor
 .rintro⟨d,hd,hv⟩;unfold sp;simp only[hd,hv,if_true];exact λe=>g.ne hd (Aaf e)
 .intro h;by_cases h1:isV N y f
  .exact h1
  .rw[At9 h1]at h;exact(h rfl).elim
def Bel(M:Tb)(x a b e:Int):Prop:=(a=b/\e=a)∨(a≠b/\0<=e/\e/2≠0/\e%2=b%2/\M (e/2)=some ⟨x,fl a b,fl b b⟩)
def sw(lv:Int->Int)(x y:Int):Int->Int:=λv=>if v=x then lv y else if v=y then lv x else lv v
structure Swp(n:Int)(lv:Int->Int)(N:Tb)(x y:Int)(M:Tb):Prop where
 stay:∀{i d},N i=some d->¬(d.v=x/\(isV N y d.lo∨isV N y d.hi))->M i=some d
 Aa4:∀{i d},N i=some d->d.v=x->(isV N y d.lo∨isV N y d.hi)->∃lo hi,M i=some ⟨y,lo,hi⟩/\Bel M x (sp N y d.lo).1 (sp N y d.hi).1 lo/\Bel M x (sp N y d.lo).2 (sp N y d.hi).2 hi
 new:∀{i d},N i=none->M i=some d->0<i/\d.v=x/\Ok N d.lo/\Ok N d.hi/\lv y<el n lv N d.lo/\lv y<el n lv N d.hi/\d.lo≠d.hi/\d.hi%2=0
 uni:∀{i j d},d.v=x->M i=some d->M j=some d->i=j
variable {x:Int}
theorem Aii:sw lv x y x=lv y:=if_pos rfl
theorem Ak5(h:x≠y):sw lv x y y=lv x:=by unfold sw;rw[if_neg (Ne.symm h),if_pos rfl]
theorem Ak6{v:Int}(h:v≠x)(k:v≠y):sw lv x y v=lv v:=by unfold sw;rw[if_neg h,if_neg k]
theorem Od.swap(o:Od n lv)(hx:0<=x/\x<n)(hy:0<=y/\y<n)(hne:x≠y):Od n (sw lv x y):=by
 have h1:=o.rng x hx.1 hx.2;have h2:=o.rng y hy.1 hy.2;have nx:∀{v},0<=v->v<n->lv v=lv x->v=x:=λh3 h4 e=>o.inj _ _ h3 h4 hx.1 hx.2 e;have ny:∀{v},0<=v->v<n->lv v=lv y->v=y:=λh3 h4 e=>o.inj _ _ h3 h4 hy.1 hy.2 e;have cs:∀v,v=x∨v=y∨(v≠x/\v≠y):=λv=>by omega
 refine⟨o.n64,λv h3 h4=>?_,λv w h3 h4 h5 h6 h=>?_⟩
 .have:=o.rng v h3 h4;unfold sw;split
  .exact h2
  .split
   .exact h1
   .exact this
 .rcases cs v with rfl|rfl|⟨a1,a2⟩<;>rcases cs w with rfl|rfl|⟨b1,b2⟩
  .rfl
  .rw[Aii,Ak5 hne]at h;exact(ny h3 h4 h.symm)
  .rw[Aii,Ak6 b1 b2]at h;exact(b2 (ny h5 h6 h.symm)).elim
  .rw[Aii,Ak5 hne]at h;exact(nx h3 h4 h.symm)
  .rfl
  .rw[Ak5 hne,Ak6 b1 b2]at h;exact(b1 (nx h5 h6 h.symm)).elim
  .rw[Aii,Ak6 a1 a2]at h;exact(a2 (ny h3 h4 h)).elim
  .rw[Ak5 hne,Ak6 a1 a2]at h;exact(a1 (nx h3 h4 h)).elim
  .rw[Ak6 a1 a2,Ak6 b1 b2]at h;exact o.inj _ _ h3 h4 h5 h6 h
theorem Bel.inj{M:Tb}{a b a' b':Int}(h:Bel M x a b e)(h':Bel M x a' b' e)(ha:∀d,M (a/2)=some d->d.v≠x)(ha':∀d,M (a' / 2)=some d->d.v≠x):a=a'/\b=b':=by
 rcases h with ⟨h1,h2⟩|⟨h1,h2,h3,h4,h5⟩<;>rcases h' with ⟨k1,k2⟩|⟨k1,k2,k3,k4,k5⟩
 .subst h2;subst k2;exact⟨rfl,h1.symm.trans k1⟩
 .subst h2;exact(ha _ k5 rfl).elim
 .subst k2;exact(ha' _ h5 rfl).elim
 .rw[h5]at k5;have e0:=Option.some.inj k5;have e1:fl a b=fl a' b':=congrArg Nd.lo e0;have e2:fl b b=fl b' b':=congrArg Nd.hi e0;rw[Ace (s:=b) (t:=e) h4.symm]at e1;rw[Ace (s:=b') (t:=e) k4.symm]at e1;rw[Ace (e:=b) (s:=b) (t:=e) h4.symm,Ace (e:=b') (s:=b') (t:=e) k4.symm]at e2;exact⟨Aaf e1,Aaf e2⟩
theorem Good.swap(g:Good n lv N)(hn:0<=n)(hx:0<=x/\x<n)(hy:0<=y/\y<n)(hxy:lv y=lv x+1){M:Tb}(s:Swp n lv N x y M):Good n (sw lv x y) M/\(∀e,Ok N e->Ok M e)/\∀e,Ok N e->den M e=den N e:=by
 have hne:x≠y:=λe=>by subst e;omega
 have ho:=g.od.swap hx hy hne;have lev:∀{v},0<=v->v<n->v≠x->v≠y->lv v<lv x∨lv y<lv v:=λ{v}h3 h4 a b=>by have h5:lv v≠lv x:=λe=>a (g.od.inj _ _ h3 h4 hx.1 hx.2 e);have h6:lv v≠lv y:=λe=>b (g.od.inj _ _ h3 h4 hy.1 hy.2 e);omega
 have dom:∀{i d},N i=some d->∃d',M i=some d'/\((d'=d/\¬(d.v=x/\(isV N y d.lo∨isV N y d.hi)))∨(d.v=x/\d'.v=y)):=λ{i d}hd=>by
  by_cases hc:d.v=x/\(isV N y d.lo∨isV N y d.hi)
  .obtain⟨lo,hi,h1,_⟩:=s.Aa4 hd hc.1 hc.2;exact⟨_,h1,.inr ⟨hc.1,rfl⟩⟩
  .exact⟨d,s.stay hd hc,.inl ⟨rfl,hc⟩⟩
 have ok:∀e,Ok N e->Ok M e:=λe h=>⟨h.1,h.2.imp id λ⟨d,hd⟩=>by obtain⟨d',h1,_⟩:=dom hd;exact⟨d',h1⟩⟩
 have low:∀{e},Ok N e->lv y<el n lv N e->el n (sw lv x y) M e=el n lv N e:=λ{e}he hl=>by
  by_cases h0:e/2=0
  .rw[Dt h0,Dt h0]
  .obtain⟨d,hd⟩:=he.2.resolve_left h0;obtain⟨d',h1,h2⟩:=dom hd;rw[Bz h0 hd]at hl ⊢;rw[Bz h0 h1];rcases h2 with ⟨rfl,_⟩|⟨h2,_⟩
   .exact Ak6 (λe=>by rw[e]at hl;omega) (λe=>by rw[e]at hl;omega)
   .rw[h2]at hl;omega
 have Abo:∀{e d},Ok N e->lv y<el n lv N e->M (e/2)=some d->d.v≠x:=λ{e d}he hl hd=>by
  by_cases h0:e/2=0
  .rw[h0]at hd;cases hz:N 0 with
   |some d0=>have:=(g.var hz).1;omega
   |none=>exact absurd (s.new hz hd).1 (by omega)
  .obtain⟨d0,hd0⟩:=he.2.resolve_left h0;rw[Bz h0 hd0]at hl;obtain⟨d',h1,h2⟩:=dom hd0;rw[hd]at h1;cases h1;rcases h2 with ⟨rfl,_⟩|⟨h2,h3⟩
   .intro e;rw[e]at hl;omega
   .rw[h2]at hl;omega
 have kid:∀{e v},Ok N e->0<=v->v<n->v≠x->lv v<el n lv N e->(v=y->lv y<el n lv N e)->sw lv x y v<el n (sw lv x y) M e:=λ{e v}he h0 hvn hvx hl hyy=>by
  by_cases hv:v=y
  .subst hv;rw[Ak5 hne,low he (hyy rfl)];have:=hyy rfl;omega
  .rw[Ak6 hvx hv];rcases lev h0 hvn hvx hv with h1|h1
   .by_cases h2:e/2=0
    .rw[Dt h2]at hl ⊢;exact hl
    .obtain⟨d,hd⟩:=he.2.resolve_left h2;obtain⟨d',h3,h4⟩:=dom hd;rw[Bz h2 h3];rw[Bz h2 hd]at hl;rcases h4 with ⟨rfl,_⟩|⟨h4,h5⟩
     .unfold sw;split
      .omega
      .split
       .exact h1
       .exact hl
     .rw[h5,Ak5 hne];exact h1
   .rw[low he (by omega)];exact hl
 have kidx:∀{e},Ok N e->¬isV N y e->lv x<el n lv N e->lv y<el n lv N e:=λ{e}he hv hl=>by
  by_cases h2:e/2=0
  .rw[Dt h2];exact(g.od.rng y hy.1 hy.2).2
  .obtain⟨d,hd⟩:=he.2.resolve_left h2;rw[Bz h2 hd]at hl ⊢;have hvv:=g.var hd;by_cases e1:lv d.v=lv y
   .exact(hv ⟨d,hd,g.od.inj _ _ hvv.2.1 hvv.2.2 hy.1 hy.2 e1⟩).elim
   .omega
 have four:∀{i d},N i=some d->d.v=x->∀k,k=d.lo∨k=d.hi->Ok N k/\lv y<=el n lv N k:=λ{i d}hd hv k hk=>by
  obtain⟨l1,l2⟩:=g.lo hd;obtain⟨u1,u2⟩:=g.hi hd;rw[hv]at l2 u2;rcases hk with rfl|rfl
  .exact⟨l1,by omega⟩
  .exact⟨u1,by omega⟩
 have bel:∀{a b e},Ok N a->Ok N b->lv y<el n lv N a->lv y<el n lv N b->Bel M x a b e->Ok M e/\lv x<el n (sw lv x y) M e:=λ{a b e}ha hb la lb h=>by
  rcases h with ⟨h1,rfl⟩|⟨h1,h2,h3,h4,h5⟩
  .exact⟨ok _ ha,by rw[low ha la];omega⟩
  .exact⟨⟨h2,.inr ⟨_,h5⟩⟩,by rw[Bz h3 h5,Aii];omega⟩
 have hlev:Good n (sw lv x y) M:=by
  have back:∀{i d'},M i=some d'->(∃d,N i=some d/\((d'=d/\¬(d.v=x/\(isV N y d.lo∨isV N y d.hi)))∨(d.v=x/\(isV N y d.lo∨isV N y d.hi)/\d'.v=y/\Bel M x (sp N y d.lo).1 (sp N y d.hi).1 d'.lo/\Bel M x (sp N y d.lo).2 (sp N y d.hi).2 d'.hi))) ∨
    (0<i/\d'.v=x/\Ok N d'.lo/\Ok N d'.hi/\lv y<el n lv N d'.lo/\lv y<el n lv N d'.hi/\d'.lo≠d'.hi/\d'.hi%2=0):=λ{i d'}h=>by
   cases hd:N i with
   |none=>exact .inr (s.new hd h)
   |some d=>
    refine .inl ⟨d,rfl,?_⟩;by_cases hc:d.v=x/\(isV N y d.lo∨isV N y d.hi)
    .obtain⟨lo,hi,h1,h2,h3⟩:=s.Aa4 hd hc.1 hc.2;rw[h]at h1;cases h1;exact .inr ⟨hc.1,hc.2,rfl,h2,h3⟩
    .have:=s.stay hd hc;rw[h]at this;cases this;exact .inl ⟨rfl,hc⟩
  refine⟨ho,λh=>?_,λ{i d'}h=>?_,λ{i d'}h=>?_,λ{i d'}h=>?_,λ{i d'}h=>?_,λ{i j d'}h k=>?_⟩
  .rcases back h with ⟨d,hd,(⟨rfl,_⟩|⟨_,_,h2,_⟩)⟩|⟨h0,h1,_⟩
   .exact g.var hd
   .rw[h2];exact⟨(g.var hd).1,hy.1,hy.2⟩
   .rw[h1];exact⟨h0,hx.1,hx.2⟩
  .rcases back h with ⟨d,hd,(⟨rfl,hc⟩|⟨hv,hc,h2,h3,h4⟩)⟩|⟨h0,h1,h2,h3,h4,h5,_⟩
   .obtain⟨l1,l2⟩:=g.lo hd;have hvv:=g.var hd;refine⟨ok _ l1,?_⟩;by_cases hv:d'.v=x
    .have:=kidx l1 (λe=>hc ⟨hv,.inl e⟩) (by rw[<-hv];exact l2);rw[hv,Aii,low l1 this];exact this
    .exact kid l1 hvv.2.1 hvv.2.2 hv l2 λe=>by rw[<-e];exact l2
   .obtain⟨l1,l2⟩:=four hd hv _ (.inl rfl);obtain⟨u1,u2⟩:=four hd hv _ (.inr rfl);obtain⟨a1,a2,a3,a4,_⟩:=g.Nl hn hy l1 l2;obtain⟨b1,b2,b3,b4,_⟩:=g.Nl hn hy u1 u2;rw[h2,Ak5 hne];exact bel a1 b1 a3 b3 h3
   .rw[h1,Aii,low h2 h4];exact⟨ok _ h2,h4⟩
  .rcases back h with ⟨d,hd,(⟨rfl,hc⟩|⟨hv,hc,h2,h3,h4⟩)⟩|⟨h0,h1,h2,h3,h4,h5,_⟩
   .obtain⟨l1,l2⟩:=g.hi hd;have hvv:=g.var hd;refine⟨ok _ l1,?_⟩;by_cases hv:d'.v=x
    .have:=kidx l1 (λe=>hc ⟨hv,.inr e⟩) (by rw[<-hv];exact l2);rw[hv,Aii,low l1 this];exact this
    .exact kid l1 hvv.2.1 hvv.2.2 hv l2 λe=>by rw[<-e];exact l2
   .obtain⟨l1,l2⟩:=four hd hv _ (.inl rfl);obtain⟨u1,u2⟩:=four hd hv _ (.inr rfl);obtain⟨a1,a2,a3,a4,_⟩:=g.Nl hn hy l1 l2;obtain⟨b1,b2,b3,b4,_⟩:=g.Nl hn hy u1 u2;rw[h2,Ak5 hne];exact bel a2 b2 a4 b4 h4
   .rw[h1,Aii,low h3 h5];exact⟨ok _ h3,h5⟩
  .rcases back h with ⟨d,hd,(⟨rfl,hc⟩|⟨hv,hc,h2,h3,h4⟩)⟩|⟨h0,h1,h2,h3,h4,h5,h6,_⟩
   .exact g.ne hd
   .obtain⟨l1,l2⟩:=four hd hv _ (.inl rfl);obtain⟨u1,u2⟩:=four hd hv _ (.inr rfl);obtain⟨a1,a2,a3,a4,_⟩:=g.Nl hn hy l1 l2;obtain⟨b1,b2,b3,b4,_⟩:=g.Nl hn hy u1 u2;intro e;rw[<-e]at h4;obtain⟨e1,e2⟩:=h3.inj h4 (λ_=>Abo a1 a3) (λ_=>Abo a2 a4);rcases hc with hc|hc
    .exact g.Ajn.1 hc e1
    .exact g.Ajn.1 hc e2
   .exact h6
  .rcases back h with ⟨d,hd,(⟨rfl,hc⟩|⟨hv,hc,h2,h3,h4⟩)⟩|⟨h0,h1,h2,h3,h4,h5,h6,h7⟩
   .exact g.reg hd
   .obtain⟨u1,u2⟩:=four hd hv _ (.inr rfl);obtain⟨b1,b2,b3,b4,_,b6⟩:=g.Nl hn hy u1 u2;have:=b6 (g.reg hd);rcases h4 with ⟨k1,k2⟩|⟨_,_,_,k4,_⟩
    .rw[k2,k1];exact this
    .rw[k4];exact this
   .exact h7
  .by_cases hdx:d'.v=x
   .exact s.uni hdx h k
   .have tt:∀{i:Int}{d1 d2:Nd},N i=some d1->d1.v=x->(isV N y d1.lo∨isV N y d1.hi)->Bel M x (sp N y d1.lo).1 (sp N y d1.hi).1 d2.lo->Bel M x (sp N y d1.lo).2 (sp N y d1.hi).2 d2.hi->Ok N d2.lo->lv y<el n lv N d2.lo->Ok N d2.hi->lv y<el n lv N d2.hi->False:=λ{i d1 d2}hd hv hc h3 h4 ol ll oh lh=>by
     obtain⟨l1,l2⟩:=four hd hv _ (.inl rfl);obtain⟨u1,u2⟩:=four hd hv _ (.inr rfl);obtain⟨a1,a2,a3,a4,a5,_⟩:=g.Nl hn hy l1 l2;obtain⟨b1,b2,b3,b4,b5,_⟩:=g.Nl hn hy u1 u2;have e1:(sp N y d1.lo).1=(sp N y d1.hi).1:=by
      rcases h3 with ⟨k1,_⟩|⟨_,_,_,_,k5⟩
      .exact k1
      .exact(Abo ol ll k5 rfl).elim
     have e2:(sp N y d1.lo).2=(sp N y d1.hi).2:=by
      rcases h4 with ⟨k1,_⟩|⟨_,_,_,_,k5⟩
      .exact k1
      .exact(Abo oh lh k5 rfl).elim
     exact g.ne hd (g.eq hn l1 u1 (by funext a;rw[a5,b5,e1,e2]))
    rcases back h with ⟨d,hd,(⟨rfl,hc⟩|⟨hv,hc,h2,h3,h4⟩)⟩|⟨h0,h1,_⟩<;>rcases back k with ⟨c,hc',(⟨rfl,kc⟩|⟨kv,kc,k2,k3,k4⟩)⟩|⟨k0,k1,_⟩
    .exact g.uni hd hc'
    .refine(tt hc' kv kc k3 k4 (g.lo hd).1 ?_ (g.hi hd).1 ?_).elim
     .rw[<-k2];exact(g.lo hd).2
     .rw[<-k2];exact(g.hi hd).2
    .exact(hdx k1).elim
    .refine(tt hd hv hc h3 h4 (g.lo hc').1 ?_ (g.hi hc').1 ?_).elim
     .rw[<-h2];exact(g.lo hc').2
     .rw[<-h2];exact(g.hi hc').2
    .obtain⟨l1,l2⟩:=four hd hv _ (.inl rfl);obtain⟨u1,u2⟩:=four hd hv _ (.inr rfl);obtain⟨a1,a2,a3,a4,a5,_⟩:=g.Nl hn hy l1 l2;obtain⟨b1,b2,b3,b4,b5,_⟩:=g.Nl hn hy u1 u2;obtain⟨m1,m2⟩:=four hc' kv _ (.inl rfl);obtain⟨w1,w2⟩:=four hc' kv _ (.inr rfl);obtain⟨c1,c2,c3,c4,c5,_⟩:=g.Nl hn hy m1 m2;obtain⟨e1,e2,e3,e4,e5,_⟩:=g.Nl hn hy w1 w2;obtain⟨q1,q2⟩:=h3.inj k3 (λ_=>Abo a1 a3) (λ_=>Abo c1 c3);obtain⟨q3,q4⟩:=h4.inj k4 (λ_=>Abo a2 a4) (λ_=>Abo c2 c4);have f1:d.lo=c.lo:=g.eq hn l1 m1 (by funext a;rw[a5,c5,q1,q3]);have f2:d.hi=c.hi:=g.eq hn u1 w1 (by funext a;rw[b5,e5,q2,q4]);have:d=c:=by cases d;cases c;simp_all
     subst this;exact g.uni hd hc'
    .exact(hdx k1).elim
    .exact(hdx h1).elim
    .exact(hdx h1).elim
    .exact(hdx h1).elim
 refine⟨hlev,ok,?_⟩;have key:∀(k:Nat)(e:Int),Ok N e->n-el n lv N e<k->den M e=den N e:=by
  intro k;induction k with
  |zero=>intro e he hk;have:=g.Ahl he hn;omega
  |succ k ih=>
   intro e he hk;by_cases h0:e/2=0
   .rw[Uc h0,Uc h0]
   .obtain⟨d,hd⟩:=he.2.resolve_left h0;rw[Bz h0 hd]at hk;obtain⟨l1,l2⟩:=g.lo hd;obtain⟨u1,u2⟩:=g.hi hd;funext a;by_cases hc:d.v=x/\(isV N y d.lo∨isV N y d.hi)
    .obtain⟨lo,hi,h1,h2,h3⟩:=s.Aa4 hd hc.1 hc.2;obtain⟨l3,l4⟩:=four hd hc.1 _ (.inl rfl);obtain⟨u3,u4⟩:=four hd hc.1 _ (.inr rfl);obtain⟨a1,a2,a3,a4,a5,_⟩:=g.Nl hn hy l3 l4;obtain⟨b1,b2,b3,b4,b5,_⟩:=g.Nl hn hy u3 u4;have hk':lv d.v<lv y:=by rw[hc.1];omega
     have bd:∀{p q e},Ok N p->Ok N q->lv y<el n lv N p->lv y<el n lv N q->Bel M x p q e->den M e a=if a x=true then den N q a else den N p a:=λ{p q e}op oq lp lq h=>by
      rcases h with ⟨k1,rfl⟩|⟨k1,k2,k3,k4,k5⟩
      .rw[ih _ op (by omega)];subst k1;split<;>rfl
      .rw[hlev.N5 hn k3 k5];simp only;rw[N6 (ok _ oq),N6 (ok _ op),ih _ op (by omega),ih _ oq (by omega),k4];split<;>(rcases Int.emod_two_eq q with hq|hq<;>simp [hq])
     rw[hlev.N5 hn h0 h1,g.N5 hn h0 hd];simp only;rw[bd a1 b1 a3 b3 h2,bd a2 b2 a4 b4 h3,a5,b5,hc.1];congr 1;split<;>split<;>rfl
    .rw[hlev.N5 hn h0 (s.stay hd hc),g.N5 hn h0 hd,ih _ l1 (by omega),ih _ u1 (by omega)]
 exact λe he=>key 66 e he (by have:=g.fuel hn he;omega)
end
end
section
theorem Ah4:∀(L:Nat)(l:List (List Bool)),l.Nodup->(∀x∈l,x.length=L)->l.length<=2^L
 |0,[],_,_=>by simp
 |0,[_],_,_=>by simp
 |0,x::y::l,hn,h=>by
  have h1:=h x (by simp);have h2:=h y (by simp);have:x=y:=by rw[List.length_eq_zero_iff.1 h1,List.length_eq_zero_iff.1 h2]
  simp [this]at hn
 |L+1,l,hn,h=>by
  have half:∀b:Bool,((l.filter λx=>x.head?==some b).map List.tail).length<=2^L:=λb=>by
   refine Ah4 L _ ?_ ?_
   .rw[List.Nodup,List.pairwise_map];refine(hn.filter _).imp_of_mem λ{x y}hx hy hne e=>hne ?_;have hx1:=(List.mem_filter.1 hx).2;have hy1:=(List.mem_filter.1 hy).2;cases x with
    |nil=>simp at hx1
    |cons p x=>cases y with
     |nil=>simp at hy1
     |cons q y=>
      simp at hx1 hy1 e;rw[hx1,hy1,e]
   .intro y hy;obtain⟨x,hx,rfl⟩:=List.mem_map.1 hy;have:=h x (List.mem_filter.1 hx).1;simp [this]
  have hs:∀(l:List (List Bool)),(∀x∈l,x.length=L+1)->l.length=(l.filter λx=>x.head?==some true).length+(l.filter λx=>x.head?==some false).length:=by
   intro l;induction l with
   |nil=>simp
   |cons x l ih=>
    intro h;have h1:=ih λy hy=>h y (by simp [hy]);have h2:=h x (by simp);cases x with
    |nil=>simp at h2
    |cons b x=>cases b<;>simp [h1]<;>omega
  have h1:=half true;have h2:=half false;rw[List.length_map]at h1 h2;rw[hs l h,Nat.pow_succ];omega
theorem At8{α:Type}(p:α->Bool)(l:List α):l.length=(l.filter p).length+(l.filter λx=>!p x).length:=by
 induction l with
 |nil=>rfl
 |cons x l ih=>cases h:p x<;>simp [h,ih]<;>omega
theorem Aj2{l:List (Nat×List Bool)}(hn:l.Nodup){t:Nat}(h:∀x∈l,x.1=t):(l.map (·.2)).Nodup:=by rw[List.Nodup,List.pairwise_map];exact hn.imp_of_mem λ{x y}hx hy hne e=>hne (Prod.ext ((h x hx).trans (h y hy).symm) e)
theorem Aub{l:List (List Bool)}(hn:l.Nodup)(h:∀x∈l,x.length<4):l.length<=15:=by
 have part:∀k,(l.filter λx=>x.length==k).length<=2^k:=λk=>Ah4 k _ (hn.filter _) λx hx=>by simpa using (List.mem_filter.1 hx).2
 have hs:∀(l:List (List Bool)),(∀x∈l,x.length<4)->l.length=(l.filter λx=>x.length==0).length+(l.filter λx=>x.length==1).length+(l.filter λx=>x.length==2).length+(l.filter λx=>x.length==3).length:=by
  intro l;induction l with
  |nil=>simp
  |cons x l ih=>
   intro h;have h1:=ih λy hy=>h y (by simp [hy]);have h2:=h x (by simp);have:x.length=0∨x.length=1∨x.length=2∨x.length=3:=by omega
   rcases this with e|e|e|e<;>simp only[List.filter_cons,e,List.length_cons]<;>simp<;>omega
 have h0:=part 0;have h1:=part 1;have h2:=part 2;have h3:=part 3;rw[hs l h];simp at h0 h1 h2 h3 ⊢;omega
theorem Ako:∀(K:Nat)(l:List (Nat×List Bool)),l.Nodup->(∀x∈l,x.1<=K/\(x.1=0->x.2.length=16)/\(x.1≠0->x.2.length<4))->l.length<=65536+15*K
 |0,l,hn,h=>by
  have h1:∀x∈l,x.1=0:=λx hx=>by have:=(h x hx).1;omega
  have:=Ah4 16 (l.map (·.2)) (Aj2 hn h1) λx hx=>by obtain⟨y,hy,rfl⟩:=List.mem_map.1 hx;exact(h y hy).2.1 (h1 y hy)
  simpa using this
 |K+1,l,hn,h=>by
  have h1:=At8 (λx:Nat×List Bool=>x.1 == K+1) l;have h2:=Ako K (l.filter λx=>!(x.1 == K+1)) (hn.filter _) λx hx=>by obtain⟨hx1,hx2⟩:=List.mem_filter.1 hx;have:=h x hx1;simp at hx2;exact⟨by omega,this.2⟩
  have h3:=Aub (Aj2 (hn.filter (λx:Nat×List Bool=>x.1 == K+1)) (t:=K+1) λx hx=>by simpa using (List.mem_filter.1 hx).2) (λx hx=>by obtain⟨y,hy,rfl⟩:=List.mem_map.1 hx;obtain⟨hy1,hy2⟩:=List.mem_filter.1 hy;simp at hy2;exact(h y hy1).2.2 (by omega))
  rw[List.length_map]at h3;omega
def mix(lv:Int->Int)(k:Int)(b a:As):As:=λv=>if lv v<k then b v else a v
def Cof(lv:Int->Int)(k:Int)(f r:Fn):Prop:=∃(s:Bool)(b:As),∀a,r a=(s ^^ f (mix lv k b a))
def Dep(n:Int)(lv:Int->Int)(k:Int)(r:Fn):Prop:=∀a b:As,(∀v,0<=v->v<n->k<=lv v->a v=b v)->r a=r b
section
variable {n:Int} {lv:Int->Int} {N:Tb}
variable {k:Int}
theorem Good.dep(g:Good n lv N){e:Int}(h:Ok N e)(hk:k<=el n lv N e):Dep n lv k (den N e):=λa b hab=>g.Acn h λv h0 h1 h2=>hab v h0 h1 (by omega)
variable {r:Fn}
theorem Cof.refl(h:Dep n lv k r):Cof lv k r r:=⟨false,λ_=>false,λa=>by rw[Bool.false_xor];exact h _ _ λv _ _ h2=>(if_neg (by omega)).symm⟩
variable {f:Fn}
theorem Cof.not(h:Cof lv k f r):Cof lv k f (λa=>!r a):=by obtain⟨s,b,h⟩:=h;exact⟨!s,b,λa=>by show (!r a)=_;rw[h];cases s<;>cases f _<;>rfl⟩
theorem Cof.sign(s:Bool)(h:Cof lv k f r):Cof lv k f (λa=>s ^^ r a):=by
 cases s
 .simpa using h
 .simpa using h.not
theorem Cof.set{r':Fn}{k' v:Int}{c:Bool}(h:Cof lv k f r)(hv:lv v<k')(hkv:k<=lv v)(hr:∀a,r' a=r (Ank a v c))(hd:Dep n lv k' r'):Cof lv k' f r':=by
 obtain⟨s,b,h⟩:=h;refine⟨s,mix lv k b (Ank (λ_=>false) v c),λa=>?_⟩;rw[hd a (mix lv k' (λ_=>false) a) λw _ _ h2=>(if_neg (by omega)).symm,hr,h];congr 2;funext w;unfold mix Ank;by_cases h1:lv w<k
 .simp only[h1,if_true,show lv w<k' by omega]
 .by_cases h2:w=v
  .subst h2;simp only[h1,hv,if_true,if_false]
  .by_cases h3:lv w<k'<;>simp only[h1,h2,h3,if_true,if_false]
theorem Cof.A6e{k':Int}(h:Cof lv k f r)(hk:k<=k')(hd:Dep n lv k' r):Cof lv k' f r:=by
 obtain⟨s,b,h⟩:=h;refine⟨s,mix lv k b (λ_=>false),λa=>?_⟩;rw[hd a (mix lv k' (λ_=>false) a) λw _ _ h2=>(if_neg (by omega)).symm,h];congr 2;funext w;unfold mix;by_cases h1:lv w<k
 .simp only[h1,if_true,show lv w<k' by omega]
 .by_cases h3:lv w<k'<;>simp only[h1,h3,if_true,if_false]
def Aat(n:Int)(lv:Int->Int)(N:Tb)(R:List Fn):Prop:=∀i d,N i=some d->n-4<=lv d.v∨∃f∈R,Cof lv (lv d.v) f (den N (2*i))
theorem Aat.mono{R R':List Fn}(h:Aat n lv N R)(hR:∀f∈R,f∈R'):Aat n lv N R':=λi d hd=>(h i d hd).imp id λ⟨f,hf,hc⟩=>⟨f,hR f hf,hc⟩
def asg(lv:Int->Int)(k:Int)(l:List Bool):As:=λv=>l.getD (lv v-k).toNat false
def Ajc:Nat->List (List Bool)
 |0=>[[]]
 |L+1=>(Ajc L).map (false::·)++(Ajc L).map (true::·)
theorem Apr:∀L,(Ajc L).length=2^L
 |0=>rfl
 |L+1=>by simp [Ajc,Apr L,Nat.pow_succ];omega
theorem Apq:∀(L:Nat)(l:List Bool),l.length=L->l∈Ajc L
 |0,[],_=>by simp [Ajc]
 |0,_::_,h=>by simp at h
 |L+1,[],h=>by simp at h
 |L+1,b::l,h=>by have:=Apq L l (by simpa using h);cases b<;>simp [Ajc,this]
theorem Aso(g:Good n lv N)(hn:0<=n){i j:Int}{d d':Nd}(hd:N i=some d)(hd':N j=some d')(s:Bool)(h:∀a,den N (2*i) a=(s ^^ den N (2*j) a)):i=j:=by
 have o1:Ok N (2*i):=⟨by have:=g.var hd;omega,.inr ⟨d,by rw[show 2*i/2=i by omega];exact hd⟩⟩
 have o2:Ok N (2*j):=⟨by have:=g.var hd';omega,.inr ⟨d',by rw[show 2*j/2=j by omega];exact hd'⟩⟩
 have h1:=h (λ_=>true);rw[g.Afm hn o1,g.Afm hn o2]at h1;have hs:s=false:=by
  rw[show 2*i%2=0 by omega,show 2*j%2=0 by omega]at h1;cases s
  .rfl
  .simp at h1
 subst hs;have:=g.eq hn o1 o2 (by funext a;rw[h a,Bool.false_xor]);omega
def RD(n:Int)(f:Fn):Prop:=∀a b:As,(∀v,0<=v->v<n->a v=b v)->f a=f b
theorem Good.rd(g:Good n lv N){e:Int}(h:Ok N e):RD n (den N e):=λa b hab=>g.Acn h λv h0 h1 _=>hab v h0 h1
theorem Aat.few(g:Good n lv N)(hn:0<=n)(h8:n<=8){R:List Fn}(hR:∀f∈R,RD n f)(h:Aat n lv N R)(l:List Int)(hl:l.Nodup)(hm:∀i∈l,∃d,N i=some d):l.length<=65536+15*R.length:=by
 have code:∀i,∃c:Nat×List Bool,i∈l->(c.1<=R.length/\(c.1=0->c.2.length=16)/\(c.1≠0->c.2.length<4))/\
   ∃d,N i=some d/\((c.1=0/\n-4<=lv d.v/\c.2=(Ajc 4).map λt=>den N (2*i) (asg lv (n-4) t)) ∨
    (∃f,c.1≠0/\R[c.1-1]?=some f/\(c.2.length:Int)=lv d.v/\∃s:Bool,∀a,den N (2*i) a=(s ^^ f (mix lv (lv d.v) (asg lv 0 c.2) a)))):=by
  intro i
  by_cases hi:i∈l
  .obtain⟨d,hd⟩:=hm i hi
   have hv:=g.var hd
   have hr:=g.od.rng _ hv.2.1 hv.2.2
   by_cases hdeep:n-4<=lv d.v
   .exact⟨⟨0,(Ajc 4).map λt=>den N (2*i) (asg lv (n-4) t)⟩,λ_=>⟨⟨Nat.zero_le _,λ_=>by rw[List.length_map,Apr],λh=>absurd rfl h⟩,d,hd,.inl ⟨rfl,hdeep,rfl⟩⟩⟩
   .obtain⟨f,hf,s,b,hc⟩:=(h i d hd).resolve_left hdeep
    obtain⟨q,hq,hqf⟩:=List.getElem_of_mem hf
    let vr:Nat->Int:=λk=>Classical.epsilon λv=>0<=v/\v<n/\lv v=k
    let t:List Bool:=(List.range (lv d.v).toNat).map λk=>b (vr k)
    refine⟨⟨q+1,t⟩,λ_=>⟨⟨by simp;omega,λh=>by simp at h,λ_=>by simp [t];omega⟩,d,hd,.inr ⟨f,by simp,by simp [hq,hqf],by simp [t];omega,s,λa=>?_⟩⟩⟩
    rw[hc a]
    congr 1
    refine hR f hf _ _ λv h0 h1=>?_
    unfold mix
    by_cases h2:lv v<lv d.v
    .rw[if_pos h2,if_pos h2]
     have hrv:=g.od.rng v h0 h1
     have hvr:vr (lv v).toNat=v:=by have:=Classical.epsilon_spec (p:=λu=>0<=u/\u<n/\lv u=((lv v).toNat:Int)) ⟨v,h0,h1,by omega⟩;exact g.od.inj _ _ this.1 this.2.1 h0 h1 (by rw[this.2.2];omega)
     show b v=t.getD (lv v-0).toNat false
     rw[Int.sub_zero,List.getD_eq_getElem?_getD,List.getElem?_map,List.getElem?_range (by omega)]
     simp [hvr]
    .rw[if_neg h2,if_neg h2]
  .exact⟨⟨0,[]⟩,λh=>(hi h).elim⟩
 obtain⟨c,hc⟩:=Classical.axiomOfChoice code;have inj:∀i∈l,∀j∈l,c i=c j->i=j:=by
  intro i hi j hj e;obtain⟨_,d,hd,h1⟩:=hc i hi;obtain⟨_,d',hd',h2⟩:=hc j hj;rw[e]at h1;rcases h1 with ⟨k1,k2,k3⟩|⟨f,k1,k2,k3,s,k4⟩<;>rcases h2 with ⟨m1,m2,m3⟩|⟨f',m1,m2,m3,s',m4⟩
  .refine Aso g hn hd hd' false λa=>?_;rw[Bool.false_xor];rw[k3]at m3;have o1:Ok N (2*i):=⟨by have:=g.var hd;omega,.inr ⟨d,by rw[show 2*i/2=i by omega];exact hd⟩⟩
   have o2:Ok N (2*j):=⟨by have:=g.var hd';omega,.inr ⟨d',by rw[show 2*j/2=j by omega];exact hd'⟩⟩
   have l1:el n lv N (2*i)=lv d.v:=Bz (by have:=g.var hd;omega) (by rw[show 2*i/2=i by omega];exact hd);have l2:el n lv N (2*j)=lv d'.v:=Bz (by have:=g.var hd';omega) (by rw[show 2*j/2=j by omega];exact hd');let vr:Nat->Int:=λk=>Classical.epsilon λv=>0<=v/\v<n/\lv v=n-4+k;let t:List Bool:=(List.range 4).map λk=>a (vr k);have ht:t∈Ajc 4:=Apq 4 t (by simp [t]);have ha:∀v,0<=v->v<n->n-4<=lv v->a v=asg lv (n-4) t v:=λv h0 h1 h2=>by
    have hrv:=g.od.rng v h0 h1;have hvr:vr (lv v-(n-4)).toNat=v:=by have:=Classical.epsilon_spec (p:=λu=>0<=u/\u<n/\lv u=n-4+((lv v-(n-4)).toNat:Int)) ⟨v,h0,h1,by omega⟩;exact g.od.inj _ _ this.1 this.2.1 h0 h1 (by rw[this.2.2];omega)
    show a v=t.getD (lv v-(n-4)).toNat false;rw[List.getD_eq_getElem?_getD,List.getElem?_map,List.getElem?_range (by omega)];simp [hvr]
   rw[g.Acn o1 (b:=asg lv (n-4) t) λv h0 h1 h2=>ha v h0 h1 (by omega),g.Acn o2 (b:=asg lv (n-4) t) λv h0 h1 h2=>ha v h0 h1 (by omega)];exact List.map_inj_left.1 m3 t ht
  .exact(m1 k1).elim
  .exact(k1 m1).elim
  .rw[k2]at m2;cases m2;have hl:lv d.v=lv d'.v:=by omega
   refine Aso g hn hd hd' (s ^^ s') λa=>?_;rw[k4 a,m4 a,hl];cases s<;>cases s'<;>simp
 have hnd:(l.map c).Nodup:=by rw[List.Nodup,List.pairwise_map];exact hl.imp_of_mem λ{x y}hx hy hne e=>hne (inj x hx y hy e)
 have:=Ako R.length (l.map c) hnd λx hx=>by obtain⟨i,hi,rfl⟩:=List.mem_map.1 hx;exact(hc i hi).1
 simpa using this
end
end
end Go.B
namespace Go.Proofs.YtcbkbpjlbmalmaaGreatDoor
open Go Go.X Go.Y
section
abbrev I64:Ty:=.int .i64
theorem Bk{n:Int}:InK .i64 n↔-9223372036854775808<=n/\n<=9223372036854775807:=by
 have h1:IntKind.i64.min=-9223372036854775808:=by decide
 have h2:IntKind.i64.max=9223372036854775807:=by decide
 unfold InK;rw[h1,h2]
theorem A84(n:Nat):n ^^^ 1=if n%2=0 then n+1 else n-1:=by
 have h1:(n ^^^ 1)/2=n/2:=by
  apply Nat.eq_of_testBit_eq;intro i;rw[Nat.testBit_div_two,Nat.testBit_div_two,Nat.testBit_xor];have:Nat.testBit 1 (i+1)=false:=by rw[Nat.testBit_succ];simp
  rw[this,Bool.xor_false]
 have h2:(n ^^^ 1)%2=1-n%2:=by have h3:=Nat.testBit_xor n 1 0;simp only[Nat.testBit_zero]at h3;rcases Nat.mod_two_eq_zero_or_one n with h|h<;>rcases Nat.mod_two_eq_zero_or_one (n ^^^ 1) with h'|h'<;>simp [h,h']at h3 ⊢
 split<;>omega
variable {e:Int}
theorem Apj(h:InK .i64 e):D0 .xor .i64 e 1=B.flip e:=by
 have he:=Bk.1 h;have h1:(BitVec.ofInt 64 e ^^^ BitVec.ofInt 64 1).toNat=if (e%18446744073709551616)%2=0 then (e%18446744073709551616).toNat+1 else (e%18446744073709551616).toNat-1:=by
  rw[BitVec.toNat_xor,BitVec.toNat_ofInt,BitVec.toNat_ofInt];have e1:((1:Int)%((2^64:Nat):Int)).toNat=1:=by decide
  have e2:((2^64:Nat):Int)=18446744073709551616:=by decide
  rw[e1,e2,A84];split<;>split<;>omega
 show IntKind.i64.wrap ((BitVec.ofInt 64 e ^^^ BitVec.ofInt 64 1).toNat:Int)=_;rw[h1];have hw:∀m:Int,IntKind.i64.wrap m=if 9223372036854775808<=m%18446744073709551616 then m%18446744073709551616-18446744073709551616 else m%18446744073709551616:=λm=>by simp only[IntKind.wrap,IntKind.bits,IntKind.signed];simp
 rw[hw];unfold B.flip;split<;>split<;>split<;>omega
def Aw(e:Int):Int:=max e 0/2
def Bt(e:Int):Bool:=decide (0<e/\e%2=1)
theorem Pk(h:0<=e):Aw e=e/2:=by unfold Aw;omega
theorem Aqm(h:0<=e):Bt e=decide (e%2=1):=by unfold Bt;congr 1;exact propext ⟨λh=>h.2,λh=>⟨by omega,h⟩⟩
def A7(e:Int)(b:Bool):Int:=if b=true then B.flip e else e
theorem Pl{s:Int}(h:0<=s):A7 e (Bt s)=B.fl e s:=by rw[Aqm h];unfold A7 B.fl;by_cases h1:s%2=1<;>simp [h1]
noncomputable def pf0:(q:FuncId)->Option (PF Y0 q):=λ_=>none
variable {a1:Tup Y0 [I64]}
theorem A4z(a:Tup Y0 [I64])(F:Tup Y0 [I64]):(InK .i64 (mnL true a.1 [(.i64,0)])->¬(2:Int)=0/\InK .i64 ((mnL true a.1 [(.i64,0)]).tdiv 2)/\((mnL true a.1 [(.i64,0)]).tdiv 2,PUnit.unit)=F)=pfP (Y:=Y0) pf0 Tryz.f182 [I64] [I64] a F:=by kernel_rfl
noncomputable def Aqg:PF Y0 182 where
 ta:=[I64]
 tr:=[I64]
 dom:=none
 F a:=(Aw a.1,())
 pa:=rfl
 pr:=rfl
 can:=by kernel_rfl
 ok a hr _ I w hG:=Rg (pf:=pf0) (fn:=Tryz.f182) (by kernel_rfl) rfl rfl hr (Eq.mp (A4z a _) (by have he:=Bk.1 hr.1;have hm:mnL true a.1 [(.i64,0)]=max a.1 0:=rfl;rw[hm];intro h;have ht:(max a.1 0).tdiv 2=max a.1 0/2:=Int.tdiv_eq_ediv_of_nonneg (by omega);rw[ht];exact⟨by decide,Bk.2 (by omega),rfl⟩)) I w hG
theorem A8c(a:Tup Y0 [I64])(F:Tup Y0 [.bool]):((0<a.1->InK .i64 a.1->¬(2:Int)=0/\InK .i64 (a.1.tmod 2)/\(decide (a.1.tmod 2=1),PUnit.unit)=F)/\(¬0<a.1->(false,PUnit.unit)=F))=pfP (Y:=Y0) pf0 Tryz.f185 [I64] [.bool] a F:=by kernel_rfl
noncomputable def Aw3:PF Y0 185 where
 ta:=[I64]
 tr:=[.bool]
 dom:=none
 F a:=(Bt a.1,())
 pa:=rfl
 pr:=rfl
 can:=by kernel_rfl
 ok a hr _ I w hG:=Rg (pf:=pf0) (fn:=Tryz.f185) (by kernel_rfl) rfl rfl hr (Eq.mp (A8c a _) (by
  have he:=Bk.1 hr.1;refine⟨λh _=>?_,λh=>?_⟩
  .have ht:a.1.tmod 2=a.1%2:=Int.tmod_eq_emod_of_nonneg (Int.le_of_lt h);rw[ht];refine⟨by decide,Bk.2 (by omega),?_⟩;show (_,())=(_,());congr 1;unfold Bt;simp [h]
  .show (_,())=(_,());congr 1;unfold Bt;simp [h])) I w hG
theorem A79(a:Tup Y0 [I64])(F:Tup Y0 [I64]):(InK .i64 a.1->(D0 .xor .i64 a.1 1,PUnit.unit)=F)=pfP (Y:=Y0) pf0 Tryz.f169 [I64] [I64] a F:=by kernel_rfl
noncomputable def Aw2:PF Y0 169 where
 ta:=[I64]
 tr:=[I64]
 dom:=none
 F a:=(B.flip a.1,())
 pa:=rfl
 pr:=rfl
 can:=by kernel_rfl
 ok a hr _ I w hG:=Rg (pf:=pf0) (fn:=Tryz.f169) (by kernel_rfl) rfl rfl hr (Eq.mp (A79 a _) (λh=>by rw[Apj h];rfl)) I w hG
noncomputable def pf1:(q:FuncId)->Option (PF Y0 q)
 |182=>some Aqg
 |185=>some Aw3
 |169=>some Aw2
 |_=>none
theorem A55(a:Tup Y0 [I64,.bool])(F:Tup Y0 [I64]):((a.2.1=true->(B.flip a.1,PUnit.unit)=F)/\(¬a.2.1=true->(a.1,PUnit.unit)=F))=pfP (Y:=Y0) pf1 Tryz.f184 [I64,.bool] [I64] a F:=by kernel_rfl
noncomputable def Aw5:PF Y0 184 where
 ta:=[I64,.bool]
 tr:=[I64]
 dom:=none
 F a:=(A7 a.1 a.2.1,())
 pa:=rfl
 pr:=rfl
 can:=by kernel_rfl
 ok a hr _ I w hG:=Rg (pf:=pf1) (fn:=Tryz.f184) (by kernel_rfl) rfl rfl hr (Eq.mp (A55 a _) ⟨λh=>by show (_,())=(_,());rw[A7,if_pos h],λh=>by show (_,())=(_,());rw[A7,if_neg h]⟩) I w hG
theorem A15(a:Tup Y0 [I64])(F:Tup Y0 [.bool]):((decide (Aw a.1=0),PUnit.unit)=F)=pfP (Y:=Y0) pf1 Tryz.f121 [I64] [.bool] a F:=by kernel_rfl
noncomputable def Asb:PF Y0 121 where
 ta:=[I64]
 tr:=[.bool]
 dom:=none
 F a:=(decide (Aw a.1=0),())
 pa:=rfl
 pr:=rfl
 can:=by kernel_rfl
 ok a hr _ I w hG:=Rg (pf:=pf1) (fn:=Tryz.f121) (by kernel_rfl) rfl rfl hr (Eq.mp (A15 a _) rfl) I w hG
noncomputable def pf2:(q:FuncId)->Option (PF Y0 q)
 |182=>some Aqg
 |185=>some Aw3
 |169=>some Aw2
 |184=>some Aw5
 |121=>some Asb
 |_=>none
theorem A4y(a:Tup Y0 [I64,I64])(F:Tup Y0 [I64,I64,.bool]):((A7 a.1 (Bt a.2.1),A7 a.2.1 (Bt a.2.1),Bt a.2.1,PUnit.unit)=F)=pfP (Y:=Y0) pf2 Tryz.f231 [I64,I64] [I64,I64,.bool] a F:=by kernel_rfl
noncomputable def A4g:PF Y0 231 where
 ta:=[I64,I64]
 tr:=[I64,I64,.bool]
 dom:=none
 F a:=(A7 a.1 (Bt a.2.1),A7 a.2.1 (Bt a.2.1),Bt a.2.1,())
 pa:=rfl
 pr:=rfl
 can:=by kernel_rfl
 ok a hr hd I w hG:=Rg (pf:=pf2) (fn:=Tryz.f231) (by kernel_rfl) rfl rfl hr (Eq.mp (A4y a _) (rfl)) I w hG
theorem A9h(c:Int)(h:c<=4611686018427387903):InK .i64 (2*max c 0):=Bk.2 (by omega)
theorem A9i(a:Tup Y0 [I64,.bool])(F:Tup Y0 [I64]):(InK .i64 (mnL true a.1 [(.i64,0)])->InK .i64 (2*mnL true a.1 [(.i64,0)])/\(A7 (2*mnL true a.1 [(.i64,0)]) a.2.1,PUnit.unit)=F)=pfP (Y:=Y0) pf2 Tryz.f234 [I64,.bool] [I64] a F:=by kernel_rfl
noncomputable def A9g:PF Y0 234 where
 ta:=[I64,.bool]
 tr:=[I64]
 dom:=some λa=>((a.1:Int)<=4611686018427387903)
 F a:=(A7 (2*max a.1 0) a.2.1,())
 pa:=rfl
 pr:=rfl
 can:=by kernel_rfl
 ok a hr hd I w hG:=Rg (pf:=pf2) (fn:=Tryz.f234) (by kernel_rfl) rfl rfl hr (Eq.mp (A9i a _) (by have h:(a.1:Int)<=4611686018427387903:=hd _ rfl;exact λ_=>⟨A9h _ h,rfl⟩)) I w hG
theorem Aa9{α:Type}{x y:Bool}{z:α}(h:x=y):(x,z)=(y,z):=by rw[h]
def Dl(c:Int):Bool:=decide ((97<=c/\c<=122)∨(65<=c/\c<=90))
theorem L1(c:Int):(97<=c->(c<=122->true=Dl c)/\(¬c<=122->(65<=c->decide (c<=90)=Dl c)/\(¬65<=c->false=Dl c)))/\(¬97<=c->(65<=c->decide (c<=90)=Dl c)/\(¬65<=c->false=Dl c)):=by unfold Dl;refine⟨λh1=>⟨λh2=>?_,λh2=>⟨λh3=>?_,λh3=>?_⟩⟩,λh1=>⟨λh3=>?_,λh3=>?_⟩⟩<;>first|exact(decide_eq_true (by omega)).symm|exact(decide_eq_false (by omega)).symm|exact decide_eq_decide.2 (by omega)
def isDigit(c:Int):Bool:=decide (48<=c/\c<=57)
theorem Ax6(a:Tup Y0 [.int .u8])(F:Tup Y0 [.bool]):((97<=a.1->(a.1<=122->(true,PUnit.unit)=F)/\(¬a.1<=122->(65<=a.1->(decide (a.1<=90),PUnit.unit)=F)/\(¬65<=a.1->(false,PUnit.unit)=F)))/\(¬97<=a.1->(65<=a.1->(decide (a.1<=90),PUnit.unit)=F)/\(¬65<=a.1->(false,PUnit.unit)=F)))=pfP (Y:=Y0) pf2 Tryz.f202 [.int .u8] [.bool] a F:=by kernel_rfl
noncomputable def Aw4:PF Y0 202 where
 ta:=[.int .u8]
 tr:=[.bool]
 dom:=none
 F a:=(Dl a.1,())
 pa:=rfl
 pr:=rfl
 can:=by kernel_rfl
 ok a hr hd I w hG:=Rg (pf:=pf2) (fn:=Tryz.f202) (by kernel_rfl) rfl rfl hr (Eq.mp (Ax6 a _) (⟨λh1=>⟨λh2=>Aa9 (((L1 _).1 h1).1 h2),λh2=>⟨λh3=>Aa9 ((((L1 _).1 h1).2 h2).1 h3),λh3=>Aa9 ((((L1 _).1 h1).2 h2).2 h3)⟩⟩,λh1=>⟨λh3=>Aa9 (((L1 _).2 h1).1 h3),λh3=>Aa9 (((L1 _).2 h1).2 h3)⟩⟩)) I w hG
theorem Au1(a:Tup Y0 [.int .u8])(F:Tup Y0 [.bool]):((97<=a.1->(a.1<=122->(true,PUnit.unit)=F)/\(¬a.1<=122->(65<=a.1->(decide (a.1<=90),PUnit.unit)=F)/\(¬65<=a.1->(false,PUnit.unit)=F)))/\(¬97<=a.1->(65<=a.1->(decide (a.1<=90),PUnit.unit)=F)/\(¬65<=a.1->(false,PUnit.unit)=F)))=pfP (Y:=Y0) pf2 Tryz.f154 [.int .u8] [.bool] a F:=by kernel_rfl
noncomputable def Auk:PF Y0 154 where
 ta:=[.int .u8]
 tr:=[.bool]
 dom:=none
 F a:=(Dl a.1,())
 pa:=rfl
 pr:=rfl
 can:=by kernel_rfl
 ok a hr hd I w hG:=Rg (pf:=pf2) (fn:=Tryz.f154) (by kernel_rfl) rfl rfl hr (Eq.mp (Au1 a _) (⟨λh1=>⟨λh2=>Aa9 (((L1 _).1 h1).1 h2),λh2=>⟨λh3=>Aa9 ((((L1 _).1 h1).2 h2).1 h3),λh3=>Aa9 ((((L1 _).1 h1).2 h2).2 h3)⟩⟩,λh1=>⟨λh3=>Aa9 (((L1 _).2 h1).1 h3),λh3=>Aa9 (((L1 _).2 h1).2 h3)⟩⟩)) I w hG
theorem A12(a:Tup Y0 [.int .u8])(F:Tup Y0 [.bool]):((48<=a.1->(decide (a.1<=57),PUnit.unit)=F)/\(¬48<=a.1->(false,PUnit.unit)=F))=pfP (Y:=Y0) pf2 Tryz.f248 [.int .u8] [.bool] a F:=by kernel_rfl
noncomputable def A0x:PF Y0 248 where
 ta:=[.int .u8]
 tr:=[.bool]
 dom:=none
 F a:=(isDigit a.1,())
 pa:=rfl
 pr:=rfl
 can:=by kernel_rfl
 ok a hr hd I w hG:=Rg (pf:=pf2) (fn:=Tryz.f248) (by kernel_rfl) rfl rfl hr (Eq.mp (A12 a _) (by refine⟨λh1=>Aa9 ?_,λh1=>Aa9 ?_⟩<;>(unfold isDigit;first|exact(decide_eq_false (λh=>h1 h.1)).symm|exact decide_eq_decide.2 ⟨λh=>⟨h1,h⟩,λh=>h.2⟩))) I w hG
theorem Ay4(a:Tup Y0 [.int .u8])(F:Tup Y0 [.bool]):((48<=a.1->(decide (a.1<=57),PUnit.unit)=F)/\(¬48<=a.1->(false,PUnit.unit)=F))=pfP (Y:=Y0) pf2 Tryz.f201 [.int .u8] [.bool] a F:=by kernel_rfl
noncomputable def Aw6:PF Y0 201 where
 ta:=[.int .u8]
 tr:=[.bool]
 dom:=none
 F a:=(isDigit a.1,())
 pa:=rfl
 pr:=rfl
 can:=by kernel_rfl
 ok a hr hd I w hG:=Rg (pf:=pf2) (fn:=Tryz.f201) (by kernel_rfl) rfl rfl hr (Eq.mp (Ay4 a _) (by refine⟨λh1=>Aa9 ?_,λh1=>Aa9 ?_⟩<;>(unfold isDigit;first|exact(decide_eq_false (λh=>h1 h.1)).symm|exact decide_eq_decide.2 ⟨λh=>⟨h1,h⟩,λh=>h.2⟩))) I w hG
noncomputable def pfT:(q:FuncId)->Option (PF Y0 q)
 |182=>some Aqg
 |185=>some Aw3
 |169=>some Aw2
 |184=>some Aw5
 |121=>some Asb
 |231=>some A4g
 |234=>some A9g
 |202=>some Aw4
 |154=>some Auk
 |248=>some A0x
 |201=>some Aw6
 |_=>none
end
end Go.Proofs.YtcbkbpjlbmalmaaGreatDoor
