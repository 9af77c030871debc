/-
  What an operation sees: Level, Edge, Split, Top, Mk. (Merged by program out of 9 texts.)
-/
import Derived.Test.YtcbkbpjlbmalmaaGreatDoorpah
namespace Go.Proofs.YtcbkbpjlbmalmaaGreatDoor
open Go Go.X Go.Y
section
structure B4 where
 bl:Nat
 bp:Nat
 tb:List Nat
 lv:AF
 po:Av
 ta:Nat->Az
 cn:List Int
 dead:Int
def B4.ob(S:B4):Aa:={levels:=some S.bl,Ba:=some S.bp,tables:=S.tb.map some,counts:=S.cn,dead:=S.dead}
structure BX(H:HY)(b:Nat)(S:B4):Prop where
 st:H b=some (.st AA S.ob)
 lv:H S.bl=some (.st CF S.lv)
 po:H S.bp=some (.st CR S.po)
 nd:S.tb.Nodup
 ta:∀v(h:v<S.tb.length),H S.tb[v]=some (.st BC (S.ta v))
variable {H:HY} {b:Nat}
theorem Bj{c m n:Nat}{x:Y0.O m}{y:Y0.O n}(h1:H b=some (.st m x))(h2:H c=some (.st n y))(h:m≠n):b≠c:=by
 intro e;subst e;rw[h1]at h2;injection h2 with h2
 injection h2 with h2
 exact h h2
def NF(b:Nat)(S:B4)(H H':HY):Prop:=∀c,c≠b->c≠S.bl->c≠S.bp->c∉S.tb->H' c=H c
variable {S:B4}
theorem NF.refl:NF b S H H:=λ_ _ _ _ _=>rfl
theorem NF.trans{S':B4}{H' H'':HY}(h:NF b S H H')(k:NF b S' H' H'')(h1:S'.bl=S.bl)(h2:S'.bp=S.bp)(h3:S'.tb=S.tb):NF b S H H'':=λc a1 a2 a3 a4=>by rw[k c a1 (by rw[h1];exact a2) (by rw[h2];exact a3) (by rw[h3];exact a4),h c a1 a2 a3 a4]
theorem BX.Tf(h:BX H b S)(cn:List Int)(dead:Int):BX (Ac H b (.st AA {S with cn:=cn,dead:=dead}.ob)) b {S with cn:=cn,dead:=dead}/\NF b S H (Ac H b (.st AA {S with cn:=cn,dead:=dead}.ob)):=by
 refine⟨⟨Ai _ _ _,?_,?_,h.nd,λv hv=>?_⟩,λc hc _ _ _=>Af _ _ hc⟩
 .rw[Af _ _ (Bj h.lv h.st (by decide))];exact h.lv
 .rw[Af _ _ (Bj h.po h.st (by decide))];exact h.po
 .rw[Af _ _ (Bj (h.ta v hv) h.st (by decide))];exact h.ta v hv
theorem BX.Alb(h:BX H b S)(po:Av):BX (Ac H S.bp (.st CR po)) b {S with po:=po}/\NF b S H (Ac H S.bp (.st CR po)):=by
 refine⟨⟨?_,?_,Ai _ _ _,h.nd,λv hv=>?_⟩,λc _ _ hc _=>Af _ _ hc⟩
 .rw[Af _ _ (Bj h.st h.po (by decide))];exact h.st
 .rw[Af _ _ (Bj h.lv h.po (by decide))];exact h.lv
 .rw[Af _ _ (Bj (h.ta v hv) h.po (by decide))];exact h.ta v hv
theorem BX.A2e(h:BX H b S)(lv:AF):BX (Ac H S.bl (.st CF lv)) b {S with lv:=lv}/\NF b S H (Ac H S.bl (.st CF lv)):=by
 refine⟨⟨?_,Ai _ _ _,?_,h.nd,λv hv=>?_⟩,λc _ hc _ _=>Af _ _ hc⟩
 .rw[Af _ _ (Bj h.st h.lv (by decide))];exact h.st
 .rw[Af _ _ (Bj h.po h.lv (by decide))];exact h.po
 .rw[Af _ _ (Bj (h.ta v hv) h.lv (by decide))];exact h.ta v hv
theorem BX.Ala(h:BX H b S){v:Nat}(hv:v<S.tb.length)(t:Az):BX (Ac H S.tb[v] (.st BC t)) b {S with ta:=λw=>if w=v then t else S.ta w}/\NF b S H (Ac H S.tb[v] (.st BC t)):=by
 have ht:=h.ta v hv;refine⟨⟨?_,?_,?_,h.nd,λw hw=>?_⟩,λc _ _ _ hc=>Af _ _ λe=>hc (by rw[e];exact List.getElem_mem hv)⟩
 .rw[Af _ _ (Bj h.st ht (by decide))];exact h.st
 .rw[Af _ _ (Bj h.lv ht (by decide))];exact h.lv
 .rw[Af _ _ (Bj h.po ht (by decide))];exact h.po
 .simp only;by_cases e:w=v
  .subst e;rw[Ai,if_pos rfl]
  .rw[if_neg e,Af]
   .exact h.ta w hw
   .exact λh'=>e ((List.getElem_inj h.nd).1 h')
def A6(p:Av):B.Tb:=λi=>(Gi p i).map λn=>⟨n.Var,n.Lo,n.Hi⟩
def Fl(p:Av)(i:Int):Int:=match Gi p i with
 |some n=>n.Refs
 |none=>0
variable {p:Av} {i:Int}
theorem Gq{d:B.Nd}(h:A6 p i=some d):∃n,Gi p i=some n/\n.Var=d.v/\n.Lo=d.lo/\n.Hi=d.hi:=by
 unfold A6 at h;cases hn:Gi p i with
 |none=>rw[hn]at h;cases h
 |some n=>rw[hn]at h;cases h;exact⟨n,rfl,rfl,rfl,rfl⟩
theorem GZ{n:Ap}(h:Gi p i=some n):A6 p i=some ⟨n.Var,n.Lo,n.Hi⟩:=by unfold A6;rw[h];rfl
theorem Ak1(h:A6 p i=none):Gi p i=none:=by
 unfold A6 at h;cases hn:Gi p i with
 |none=>rfl
 |some n=>rw[hn]at h;cases h
def FD(l:List Int)(i:Int):Int:=if 0<=i then (l[i.toNat]?).getD 0 else 0
theorem UG{l:List Int}(h0:0<=i)(h:i.toNat<l.length):FD l i=l[i.toNat]:=by unfold FD;rw[if_pos h0,List.getElem?_eq_getElem h];rfl
theorem Ahj{l:List Int}{i x:Int}(h0:0<=i)(h:i.toNat<l.length):FD (l.set i.toNat (l[i.toNat]+x))=B.bump (FD l) i x:=by
 funext j;unfold B.bump;by_cases e:j=i
 .subst e;rw[if_pos rfl,UG h0 h];unfold FD;rw[if_pos h0];simp [h]
 .rw[if_neg e];unfold FD;by_cases hj:0<=j
  .rw[if_pos hj,if_pos hj,List.getElem?_set_ne (by omega)]
  .rw[if_neg hj,if_neg hj]
structure SC(S:B4)(r:Int->Int):Prop where
 po:Fw S.po
 cn:B.Cn (A6 S.po) S.po.at_.length (FD S.cn) r
 ln:∀i d,A6 S.po i=some d->i.toNat<S.cn.length
 dead:S.dead=B.sm S.po.at_.length (B.zr (A6 S.po) (FD S.cn))
theorem Akj{N:B.Tb}{c:Int->Int}{p:Int}:0<=B.zr N c p/\B.zr N c p<=1:=by
 unfold B.zr;split
 .split<;>omega
 .omega
theorem SC.db{r:Int->Int}(h:SC S r):0<=S.dead/\S.dead<=1048577:=by rw[h.dead];have h1:0<=B.sm S.po.at_.length (B.zr (A6 S.po) (FD S.cn)):=B.Td λ_ _ _=>Akj.1;have h2:B.sm S.po.at_.length (B.zr (A6 S.po) (FD S.cn))<=B.sm S.po.at_.length (λ_=>1):=B.Af1 λ_ _ _=>Akj.2;rw[B.Aaq]at h2;have:=h.po.len;have:=h.po.room;omega
def B4.wc(S:B4)(cn:List Int)(dead:Int):B4:={S with cn:=cn,dead:=dead}
theorem LM{rk:Int->Int}{n:Int}{X:PX}:∀(k:Nat){S:B4}{r:Int->Int}{f:Int}{H:HY}{Q:Unit->UU},B.Dag (A6 S.po) rk n->(f/2≠0->n-rk (f/2)<k)->BX H b S->SC S r->B.Ok (A6 S.po) f->(∀i d,A6 S.po i=some d->r i+B.dl f i<=1152921504606846976)->(∀cn dead H',BX H' b (S.wc cn dead)->SC (S.wc cn dead) (λi=>r i+B.dl f i)->(∀i,FD S.cn i<=FD cn i)->NF b S H H'->Q () () H')->Wp Y0 Bt Bm (some b,f,()) H Q X:=by
 intro k;induction k with
 |zero=>
  intro S r f H Q hD hk hS hC hf hB h;apply KU;unfold HD;rw[J3 hf.1];refine⟨λh0=>?_,λh0=>?_⟩
  .refine h S.cn S.dead H hS ⟨hC.po,hC.cn.congr λi hi=>?_,hC.ln,hC.dead⟩ (λ_=>Int.le_refl _) NF.refl;rw[B.Ku (by omega)];omega
  .obtain⟨d,hd⟩:=hf.2.resolve_left h0;have:=hk h0;have:=hD.MT hd;omega
 |succ k ih=>
  intro S r f H Q hD hk hS hC hf hB h;apply KU;unfold HD;rw[J3 hf.1];refine⟨λh0=>?_,λh0=>?_⟩
  .refine h S.cn S.dead H hS ⟨hC.po,hC.cn.congr λi hi=>?_,hC.ln,hC.dead⟩ (λ_=>Int.le_refl _) NF.refl;rw[B.Ku (by omega)];omega
  obtain⟨d,hd⟩:=hf.2.resolve_left h0;obtain⟨nd,hnd,hv,hlo,hhi⟩:=Gq hd;have hrk:=hD.MT hd;have hk':=hk h0;have hdm:=hC.cn.KB hd;have hln:=hC.ln _ _ hd;have hf2:0<=f/2:=by have:=hf.1;omega
  have hcl:=hC.cn.le hd;have hcg:=hC.cn.nn hd;have hrb:=hB _ _ hd;have hpl:=hC.po.len;have hpr:=hC.po.room;have hself:=@B.GU f;have hcn:=UG hf2 hln;have hbump:=@Ahj S.cn (f/2) 1 hf2 hln;have hmono:∀i,FD S.cn i<=FD (S.cn.set (f/2).toNat (S.cn[(f/2).toNat]+1)) i:=λi=>by rw[hbump];unfold B.bump;split<;>omega
  refine⟨b,rfl,S.ob,hS.st,λ_=>⟨λ_=>hf2,hln,hln,λ_=>⟨AG.2 (by show _<=S.cn[(f/2).toNat]+1/\S.cn[(f/2).toNat]+1<=_;omega),λ_=>⟨λ_=>hf2,hln,hln,λ_=>⟨λ_=>hf2,by simpa [B4.ob] using hln,by simpa [B4.ob] using hln,λh1=>?_,λh1 hdead=>?_⟩⟩⟩⟩⟩
  .have h1':1<S.cn[(f/2).toNat]+1:=by simpa [B4.ob] using h1
   obtain⟨c1,c2⟩:=hC.cn.Azr (f:=f) hd (by omega);obtain⟨s1,s2⟩:=hS.Tf (S.cn.set (f/2).toNat (S.cn[(f/2).toNat]+1)) S.dead;refine h _ _ _ s1 ⟨hC.po,?_,λi d' hi=>by show i.toNat<(S.cn.set _ _).length;rw[List.length_set];exact hC.ln i d' hi,?_⟩ hmono s2
   .show B.Cn (A6 S.po) S.po.at_.length (FD (S.cn.set _ _)) _;rw[hbump];exact c1
   .show S.dead=B.sm S.po.at_.length (B.zr (A6 S.po) (FD (S.cn.set _ _)));rw[hbump,c2];exact hC.dead
  .have h1':¬1<S.cn[(f/2).toNat]+1:=by simpa [B4.ob] using h1
   obtain⟨c1,c2⟩:=hC.cn.Azs (f:=f) hd (by omega);have hdb:=hC.db;obtain⟨s1,s2⟩:=hS.Tf (S.cn.set (f/2).toNat (S.cn[(f/2).toNat]+1)) (S.dead-1);refine⟨AG.2 (by show _<=S.dead-1/\S.dead-1<=_;omega),?_⟩;refine Gz (x:=S.po) s1.po hC.po (λhn=>by rw[hnd]at hn;cases hn) λm hm=>?_;rw[hnd]at hm;obtain rfl:nd=m:=by injection hm
   obtain⟨ol,rl⟩:=hD.lo hd;obtain⟨oh,rh⟩:=hD.hi hd;have hC1:SC (S.wc (S.cn.set (f/2).toNat (S.cn[(f/2).toNat]+1)) (S.dead-1)) (λi=>r i+B.dl f i-B.mu d i):=by
    refine⟨hC.po,?_,λi d' hi=>by show i.toNat<(S.cn.set _ _).length;rw[List.length_set];exact hC.ln i d' hi,?_⟩
    .show B.Cn (A6 S.po) S.po.at_.length (FD (S.cn.set _ _)) _;rw[hbump];exact c1
    .show S.dead-1=B.sm S.po.at_.length (B.zr (A6 S.po) (FD (S.cn.set _ _)));rw[hbump,c2,<-hC.dead]
   simp only[hlo,hhi];refine ih (S:=S.wc (S.cn.set (f/2).toNat (S.cn[(f/2).toNat]+1)) (S.dead-1)) hD (λh2=>by have:=rl h2;omega) s1 hC1 ol (λi d' hi=>?_) λcn2 dead2 H2 s3 hC2 m2 fr2=>?_
   .have:=hB i d' hi;have:=@B.G8 d.hi i;simp only[B.mu];omega
   refine ih (S:=S.wc cn2 dead2) hD (λh2=>by have:=rh h2;omega) s3 hC2 oh (λi d' hi=>?_) λcn3 dead3 H3 s4 hC3 m3 fr3=>?_
   .have:=hB i d' hi;have:=@B.G8 d.hi i;simp only[B.mu];omega
   refine h cn3 dead3 H3 s4 ⟨hC3.po,hC3.cn.congr λi _=>?_,hC3.ln,hC3.dead⟩ (λi=>Int.le_trans (hmono i) (Int.le_trans (m2 i) (m3 i))) ((s2.trans fr2 rfl rfl rfl).trans fr3 rfl rfl rfl);simp only[B.mu];omega
end
section
theorem LN{b:Nat}{rk:Int->Int}{n:Int}{X:PX}:∀(k:Nat){S:B4}{r:Int->Int}{f:Int}{H:HY}{Q:Unit->UU},B.Dag (A6 S.po) rk n->(f/2≠0->n-rk (f/2)<k)->BX H b S->SC S r->B.Ok (A6 S.po) f->(∀i d,A6 S.po i=some d->B.dl f i<=r i)->(∀cn dead H',BX H' b (S.wc cn dead)->SC (S.wc cn dead) (λi=>r i-B.dl f i)->NF b S H H'->Q () () H')->Wp Y0 Bu Bn (some b,f,()) H Q X:=by
 intro k;induction k with
 |zero=>
  intro S r f H Q hD hk hS hC hf hB h;apply KV;unfold HE;rw[J3 hf.1];refine⟨λh0=>?_,λh0=>?_⟩
  .refine h S.cn S.dead H hS ⟨hC.po,hC.cn.congr λi hi=>?_,hC.ln,hC.dead⟩ NF.refl;rw[B.Ku (by omega)];omega
  .obtain⟨d,hd⟩:=hf.2.resolve_left h0;have:=hk h0;have:=hD.MT hd;omega
 |succ k ih=>
  intro S r f H Q hD hk hS hC hf hB h;apply KV;unfold HE;rw[J3 hf.1];refine⟨λh0=>?_,λh0=>?_⟩
  .refine h S.cn S.dead H hS ⟨hC.po,hC.cn.congr λi hi=>?_,hC.ln,hC.dead⟩ NF.refl;rw[B.Ku (by omega)];omega
  obtain⟨d,hd⟩:=hf.2.resolve_left h0;obtain⟨nd,hnd,hv,hlo,hhi⟩:=Gq hd;have hrk:=hD.MT hd;have hk':=hk h0;have hdm:=hC.cn.KB hd;have hln:=hC.ln _ _ hd;have hf2:0<=f/2:=by have:=hf.1;omega
  have hcl:=hC.cn.le hd;have hcg:=hC.cn.ge hd;have hrb:=hB _ _ hd;have hpl:=hC.po.len;have hpr:=hC.po.room;have hself:=@B.GU f;have hcn:=UG hf2 hln;have hbump:FD (S.cn.set (f/2).toNat (S.cn[(f/2).toNat]-1))=B.bump (FD S.cn) (f/2) (-1):=@Ahj S.cn (f/2) (-1) hf2 hln;refine⟨b,rfl,S.ob,hS.st,λ_=>⟨λ_=>hf2,hln,hln,λhik=>⟨AG.2 (by have hik':-9223372036854775808<=S.cn[(f/2).toNat]/\S.cn[(f/2).toNat]<=9223372036854775807:=AG.1 hik;show _<=S.cn[(f/2).toNat]-1/\S.cn[(f/2).toNat]-1<=_;omega),λ_=>⟨λ_=>hf2,hln,hln,λ_=>⟨λ_=>hf2,by simpa [B4.ob] using hln,by simpa [B4.ob] using hln,λh1=>?_,λh1 hdead=>?_⟩⟩⟩⟩⟩
  .have h1':0<S.cn[(f/2).toNat]-1:=by simpa [B4.ob] using h1
   obtain⟨c1,c2⟩:=hC.cn.Azw (f:=f) hd (by omega);obtain⟨s1,s2⟩:=hS.Tf (S.cn.set (f/2).toNat (S.cn[(f/2).toNat]-1)) S.dead;refine h _ _ _ s1 ⟨hC.po,?_,λi d' hi=>by show i.toNat<(S.cn.set _ _).length;rw[List.length_set];exact hC.ln i d' hi,?_⟩ s2
   .show B.Cn (A6 S.po) S.po.at_.length (FD (S.cn.set _ _)) _;rw[hbump];exact c1
   .show S.dead=B.sm S.po.at_.length (B.zr (A6 S.po) (FD (S.cn.set _ _)));rw[hbump,c2];exact hC.dead
  .have h1':¬0<S.cn[(f/2).toNat]-1:=by simpa [B4.ob] using h1
   obtain⟨c1,c2⟩:=hC.cn.Azx (f:=f) hd (by omega);have hdb:=hC.db;obtain⟨s1,s2⟩:=hS.Tf (S.cn.set (f/2).toNat (S.cn[(f/2).toNat]-1)) (S.dead+1);refine⟨AG.2 (by show _<=S.dead+1/\S.dead+1<=_;omega),?_⟩;refine Gz (x:=S.po) s1.po hC.po (λhn=>by rw[hnd]at hn;cases hn) λm hm=>?_;rw[hnd]at hm;obtain rfl:nd=m:=by injection hm
   obtain⟨ol,rl⟩:=hD.lo hd;obtain⟨oh,rh⟩:=hD.hi hd;have hC1:SC (S.wc (S.cn.set (f/2).toNat (S.cn[(f/2).toNat]-1)) (S.dead+1)) (λi=>r i-B.dl f i+B.mu d i):=by
    refine⟨hC.po,?_,λi d' hi=>by show i.toNat<(S.cn.set _ _).length;rw[List.length_set];exact hC.ln i d' hi,?_⟩
    .show B.Cn (A6 S.po) S.po.at_.length (FD (S.cn.set _ _)) _;rw[hbump];exact c1
    .show S.dead+1=B.sm S.po.at_.length (B.zr (A6 S.po) (FD (S.cn.set _ _)));rw[hbump,c2,<-hC.dead]
   simp only[hlo,hhi];refine ih (S:=S.wc (S.cn.set (f/2).toNat (S.cn[(f/2).toNat]-1)) (S.dead+1)) hD (λh2=>by have:=rl h2;omega) s1 hC1 ol (λi d' hi=>?_) λcn2 dead2 H2 s3 hC2 fr2=>?_
   .have:=hB i d' hi;have:=@B.G8 d.hi i;have:=@B.G8 d.lo i;have:=@B.G8 f i;simp only[B.mu];omega
   refine ih (S:=S.wc cn2 dead2) hD (λh2=>by have:=rh h2;omega) s3 hC2 oh (λi d' hi=>?_) λcn3 dead3 H3 s4 hC3 fr3=>?_
   .have:=hB i d' hi;have:=@B.G8 d.hi i;have:=@B.G8 d.lo i;have:=@B.G8 f i;simp only[B.mu];omega
   refine h cn3 dead3 H3 s4 ⟨hC3.po,hC3.cn.congr λi _=>?_,hC3.ln,hC3.dead⟩ ((s2.trans fr2 rfl rfl rfl).trans fr3 rfl rfl rfl);simp only[B.mu];omega
section
variable {b:Nat} {S:B4} {r:Int->Int} {f v:Int} {H:HY} {X:PX}
theorem Abd{p:Av}(h:Fw p):Gi p 0=none:=by
 unfold Gi;split
 .rename_i ht;have:=(h.tk ht).1;omega
 .rfl
theorem Asu{p:Av}(h:Fw p):A6 p 0=none:=by unfold A6;rw[Abd h];rfl
theorem Gr{Q:Int×Unit->UU}(hS:BX H b S)(h:Q (Dh S.lv v,()) () H):Wp Y0 B6 Bv (some b,v,()) H Q X:=by refine PE _ _ _ _ _ ?_;exact⟨λh=>absurd h (by simp),λ_=>⟨b,rfl,S.ob,hS.st,rfl,Uu hS.lv h⟩⟩
theorem JL{Q:Bool×Unit->UU}(hS:BX H b S)(hP:Fw S.po)(h:∀t:Bool,(t=true↔B.Ok (A6 S.po) f)->Q (t,()) () H):Wp Y0 Dx CO (some b,f,()) H Q X:=by
 apply Ts;unfold MA;refine⟨λh=>absurd h (by simp),λ_=>⟨λh0=>h false ⟨λh=>(by cases h),λh=>absurd h.1 (by omega)⟩,λh0=>?_⟩⟩;have h0':0<=f:=by omega
 rw[J3 h0'];have key:∀Q':Ap×Bool×Unit->UU,(∀n t,Q' (n,t,()) () H=((f/2=0->Q (true,()) () H)/\(¬f/2=0->Q (t,()) () H)))->Wp Y0 AI AE (some S.bp,f/2,()) H Q' X:=λQ' hQ=>by
  refine Gz hS.po hP (λhn=>?_) λn hn=>?_
  .rw[hQ];exact⟨λe=>h true ⟨λ_=>⟨h0',.inl e⟩,λ_=>rfl⟩,λe=>h false ⟨λh=>(by cases h),λh=>by obtain⟨d,hd⟩:=h.2.resolve_left e;obtain⟨m,hm,_⟩:=Gq hd;rw[hn]at hm;cases hm⟩⟩
  .rw[hQ];have:B.Ok (A6 S.po) f:=⟨h0',.inr ⟨_,GZ hn⟩⟩
   exact⟨λ_=>h true ⟨λ_=>this,λ_=>rfl⟩,λ_=>h true ⟨λ_=>this,λ_=>rfl⟩⟩
 have k2:=key (λb io H'=>(f/2=0->Q (true,()) () H')/\(¬f/2=0->Q (b.2.1,()) () H')) (λ_ _=>rfl);exact⟨b,rfl,⟨S.ob,hS.st,⟨rfl,k2⟩,rfl,k2⟩,S.ob,hS.st,rfl,k2⟩
end
end
section
def B4.n(S:B4):Int:=S.tb.length
section
variable {b:Nat} {S:B4} {r:Int->Int} {f v:Int} {H:HY} {X:PX}
theorem Ly{Q:Int×Int×Int×Bool×Unit->UU}(hS:BX H b S)(hP:Fw S.po)(hf:B.Ok (A6 S.po) f)(h0:f/2=0->Q (-1,0,0,false,()) () H)(h1:∀d,f/2≠0->A6 S.po (f/2)=some d->Q (d.v,B.fl d.lo f,B.fl d.hi f,true,()) () H):Wp Y0 Dy CP (some b,f,()) H Q X:=by
 apply Tt;unfold MB;have hf0:=hf.1;refine⟨λh=>absurd h (by simp),λ_=>⟨λh=>by omega,λ_=>?_⟩⟩;rw[J3 hf0];simp only[J4 hf0];have key:Wp Y0 AI AE (some S.bp,f/2,()) H (λ(b:Ap×Bool×Unit)io H'=>(¬b.2.1=true->Q (-1,0,0,false,()) () H')/\(¬¬b.2.1=true->Q (b.1.Var,B.fl b.1.Lo f,B.fl b.1.Hi f,true,()) () H')) X:=by
  refine Gz hS.po hP (λhn=>⟨λ_=>?_,λh=>absurd (by simp) h⟩) λn hn=>⟨λh=>absurd rfl h,λ_=>?_⟩
  .refine h0 ?_;rcases hf.2 with h|⟨d,hd⟩
   .exact h
   .obtain⟨m,hm,_⟩:=Gq hd;rw[hn]at hm;cases hm
  .refine h1 ⟨n.Var,n.Lo,n.Hi⟩ (λe=>?_) (GZ hn);rw[e,Abd hP]at hn;cases hn
 exact⟨b,rfl,⟨S.ob,hS.st,⟨trivial,key⟩,trivial,key⟩,S.ob,hS.st,trivial,key⟩
theorem Oo{l:Int}{Q:Bool×Unit->UU}(hS:BX H b S)(hP:Fw S.po)(hf:B.Ok (A6 S.po) f)(hl:l<S.n)(h:Q (decide (l<B.el S.n (Dh S.lv) (A6 S.po) f),()) () H):Wp Y0 EY DJ (some b,f,l,()) H Q X:=by
 apply PA;unfold Kl;rw[J3 hf.1];have key:Wp Y0 AI AE (some S.bp,f/2,()) H (λ(b_1:Ap×Bool×Unit)io H'=>(f/2=(0:Int)->Q (true,()) () H')/\(¬f/2=(0:Int)->(b_1.2.1=true->Wp Y0 B6 Bv (some b,b_1.1.Var,()) H' (λ(b:Int×Unit)io H'=>Q (decide (l<b.1),()) () H') X)/\(¬b_1.2.1=true->Q (false,()) () H'))) X:=by
  have c0:f/2=0->Q (true,()) () H:=λe=>by rw[B.Cw e,decide_eq_true hl]at h;exact h
  refine Gz hS.po hP (λhn=>⟨c0,λh2=>?_⟩) λn hn=>⟨c0,λh2=>⟨λ_=>?_,λh=>absurd rfl h⟩⟩
  .obtain⟨d,hd⟩:=hf.2.resolve_left h2;obtain⟨m,hm,_⟩:=Gq hd;rw[hn]at hm;cases hm
  .refine Gr hS ?_;rw[B.Bl h2 (GZ hn)]at h;exact h
 exact⟨b,rfl,⟨S.ob,hS.st,⟨rfl,key⟩,rfl,key⟩,S.ob,hS.st,rfl,key⟩
theorem Oq{y:Int}{Q:Int×Int×Unit->UU}(hS:BX H b S)(hP:Fw S.po)(hf:B.Ok (A6 S.po) f)(h:Q ((B.sp (A6 S.po) y f).1,(B.sp (A6 S.po) y f).2,()) () H):Wp Y0 EZ DK (some b,f,y,()) H Q X:=by
 apply PB;unfold Km;refine Ly hS hP hf (λh0=>⟨λ_=>?_,λh=>absurd (by simp) h⟩) λd h0 hd=>⟨λh=>absurd rfl h,λ_=>⟨λhv=>?_,λhv=>?_⟩⟩
 .have:B.sp (A6 S.po) y f=(f,f):=by unfold B.sp;rw[h0,Asu hP]
  rw[this]at h;exact h
 .have:B.sp (A6 S.po) y f=(f,f):=by unfold B.sp;rw[hd];exact if_neg hv
  rw[this]at h;exact h
 .have:B.sp (A6 S.po) y f=(B.fl d.lo f,B.fl d.hi f):=by unfold B.sp;rw[hd];exact if_pos (by simpa using hv)
  rw[this]at h;exact h
theorem Xa{Q:Int×Unit->UU}(hS:BX H b S)(h:Q (S.lv.vars.length,()) () H):Wp Y0 HS F5 (some b,()) H Q X:=by refine QI _ _ _ _ ?_;exact⟨λh=>absurd h (by simp),λ_=>⟨b,rfl,S.ob,hS.st,S.bl,rfl,rfl,S.lv,hS.lv,λ_=>⟨rfl,h⟩⟩⟩
end
theorem Arw{l:List Int}{k:Nat}:FD (l++List.replicate k 0)=FD l:=by
 funext i;unfold FD;by_cases h0:0<=i
 .rw[if_pos h0,if_pos h0];by_cases h:i.toNat<l.length
  .rw[List.getElem?_append_left h]
  .rw[List.getElem?_append_right (by omega),List.getElem?_eq_none (by omega:l.length<=i.toNat)];by_cases h2:i.toNat-l.length<k
   .rw[List.getElem?_eq_getElem (by simpa using h2)];simp
   .rw[List.getElem?_eq_none (by simp;omega)]
 .rw[if_neg h0,if_neg h0]
theorem Arv{l:List Int}{i:Int}(h0:0<=i)(h:i.toNat<l.length):FD (l.set i.toNat 0)=λj=>if j=i then 0 else FD l j:=by
 funext j;by_cases e:j=i
 .subst e;rw[if_pos rfl];unfold FD;rw[if_pos h0];simp [h]
 .rw[if_neg e];unfold FD;by_cases hj:0<=j
  .rw[if_pos hj,if_pos hj,List.getElem?_set_ne (by omega)]
  .rw[if_neg hj,if_neg hj]
theorem Ax1{N:B.Tb}{m m':Nat}{c r:Int->Int}(h:B.Cn N m c r)(hK:∀p d,N p=some d->B.Ok N d.lo/\B.Ok N d.hi){i:Int}{d:B.Nd}(hi0:0<i)(him:i<m')(hm:m<=m')(hold:N i=none)(hr:r i=0):B.Cn (B.IQ N i d) m' (λj=>if j=i then 0 else c j) r/\B.sm m' (B.zr (B.IQ N i d) (λj=>if j=i then 0 else c j))=B.sm m (B.zr N c)+1:=by
 have hx:∀j,j≠i->B.IQ N i d j=N j:=λj hj=>if_neg hj;have hs:B.IQ N i d i=some d:=if_pos rfl;have hpt:∀j p,B.pt (B.IQ N i d) (λj=>if j=i then 0 else c j) j p=B.pt N c j p:=λj p=>by
  unfold B.pt;by_cases e:p=i
  .subst e;rw[hs,hold];simp
  .rw[hx p e];simp only[if_neg e]
 have hout:∀j(p:Int),(m:Int)<=p->B.pt N c j p=0:=λj p hp=>by
  unfold B.pt;cases hN:N p with
  |none=>rfl
  |some d'=>have:=(h.KB hN).2;omega
 have JQ:∀j,B.sm m' (B.pt (B.IQ N i d) (λj=>if j=i then 0 else c j) j)=B.sm m (B.pt N c j):=λj=>by rw[B.Ff (g:=B.pt N c j) λp _ _=>hpt j p];exact B.YO hm λk hk _=>hout j k hk
 have hzero:B.sm m (B.pt N c i)=0:=by
  rw[B.Ff (g:=λ_=>0) (λp _ _=>?_),B.U4];unfold B.pt;cases hN:N p with
  |none=>rfl
  |some d'=>
   have hk:=hK p d' hN;have hne:∀e,B.Ok N e->B.dl e i=0:=λe he=>B.Ku λe'=>by
    rcases he.2 with h2|⟨d2,h2⟩
    .omega
    .rw[<-e',hold]at h2;cases h2
   simp only[B.mu,hne _ hk.1,hne _ hk.2];simp
 refine⟨⟨λ{j d'}hj=>?_,λ{j d'}hj=>?_,λ{j d'}hj=>?_⟩,?_⟩
 .by_cases e:j=i
  .subst e;exact⟨hi0,him⟩
  .rw[hx j e]at hj;have:=h.KB hj;omega
 .by_cases e:j=i
  .rw[if_pos e];exact Int.le_refl _
  .rw[if_neg e];rw[hx j e]at hj;exact h.nn hj
 .rw[JQ];by_cases e:j=i
  .subst e;rw[if_pos rfl,hzero,hr];rfl
  .rw[if_neg e];rw[hx j e]at hj;exact h.eq hj
 .have hz:∀p,p≠i->B.zr (B.IQ N i d) (λj=>if j=i then 0 else c j) p=B.zr N c p:=λp hp=>by unfold B.zr;rw[hx p hp];simp only[if_neg hp]
  rw[B.Te (by omega) him hz];have h1:B.zr (B.IQ N i d) (λj=>if j=i then 0 else c j) i=1:=by unfold B.zr;rw[hs];simp
  have h2:B.zr N c i=0:=by unfold B.zr;rw[hold]
  rw[h1,h2,B.YO hm λk hk _=>?_];· omega
  unfold B.zr;cases hN:N k with
  |none=>rfl
  |some d'=>have:=(h.KB hN).2;omega
structure Afd(S:B4)(v lo hi i:Int)(S':B4):Prop where
 A6:A6 S'.po=B.IQ (A6 S.po) i ⟨v,lo,hi⟩
 KR:YtcbkbpjlbmalmaaGreatDoor.A6 S.po i=none
 pos:0<i
 lt:i<2000000
 rf:∀j,Fl S'.po j=Fl S.po j
 lv:S'.lv=S.lv
 tb:S'.tb=S.tb
 bl:S'.bl=S.bl
 bp:S'.bp=S.bp
 room:S'.po.room=S.po.room
 many:S'.po.many=S.po.many+1
 ta:∀w:Nat,S'.ta w=if w=v.toNat then ⟨BL (S.ta w).ids (⟨lo,hi⟩:K2) i⟩ else S.ta w
 cn:∀j,FD S'.cn j=if j=i then 0 else FD S.cn j
def B4.wa(S:B4)(po:Av)(cn:List Int)(dead:Int)(v:Nat)(t:Az):B4:={S with po:=po,cn:=cn,dead:=dead,ta:=λw=>if w=v then t else S.ta w}
theorem R1{b:Nat}{S:B4}{r:Int->Int}{v lo hi:Int}{H:HY}{X:PX}{Q:Int×Int×Unit->UU}(hS:BX H b S)(hC:SC S r)(hK:∀p d,A6 S.po p=some d->B.Ok (A6 S.po) d.lo/\B.Ok (A6 S.po) d.hi)(hr:∀i,A6 S.po i=none->r i=0)(hv:0<=v/\v<S.n)(hnew:Ae (S.ta v.toNat).ids (⟨lo,hi⟩:K2)=none)(h0:S.po.many=S.po.room->Q (0,7,()) () H)(h1:∀i S' H',S.po.many<S.po.room->Afd S v lo hi i S'->BX H' b S'->SC S' r->NF b S H H'->Q (i,0,()) () H'):Wp Y0 Gl E7 (some b,v,lo,hi,()) H Q X:=by
 apply RN;unfold L4;refine⟨b,rfl,S.ob,hS.st,rfl,Zc hS.po hC.po (λhm=>⟨λ_=>h0 hm,λh=>absurd (by simp) h⟩) λi x' ht hroom=>⟨λh=>absurd rfl h,λ_=>?_⟩⟩;have hv':v.toNat<S.tb.length:=by have:=hv.2;unfold B4.n at this;omega
 have hpos:=ht.pos;have hlt:=ht.lt;have hpl:=ht.inv.len;have hpr:=ht.inv.room;obtain⟨s1,f1⟩:=hS.Alb x';have hold:A6 S.po i=none:=by unfold A6;rw[ht.KR];rfl
 have htb:A6 x'=B.IQ (A6 S.po) i ⟨v,lo,hi⟩:=by funext j;unfold A6 B.IQ;rw[ht.nd];split<;>rfl
 have hrf:∀j,Fl x' j=Fl S.po j:=λj=>by
  unfold Fl;rw[ht.nd];by_cases e:j=i
  .rw[if_pos e,e,ht.KR]
  .rw[if_neg e]
 refine⟨λn _ H'=>∃k,n=i.toNat+1-(S.cn.length+k)/\BX H' b {S with po:=x',cn:=S.cn++List.replicate k 0}/\NF b S H H',⟨_,0,rfl,by simpa using s1,f1⟩,λn _ H'⟨k,hn,s2,f2⟩=>⟨_,s2.st,λ_=>⟨λhle=>?_,λhle _=>⟨λ_=>by omega,?_⟩⟩⟩⟩
 .have hle':((S.cn++List.replicate k 0).length:Int)<=i:=hle;simp only[List.length_append,List.length_replicate]at hle';refine⟨?_,i.toNat+1-(S.cn.length+(k+1)),by omega,k+1,rfl,?_,?_⟩
  .show ((S.cn++List.replicate k 0).length+1)*8<=_;simp only[List.length_append,List.length_replicate];omega
  .have:=(s2.Tf (S.cn++List.replicate (k+1) 0) S.dead).1;rw[List.replicate_succ',<-List.append_assoc]at this;rw[List.replicate_succ',<-List.append_assoc];exact this
  .have:=(s2.Tf (S.cn++List.replicate k 0++[0]) S.dead).2;exact f2.trans this rfl rfl rfl
 .have hle':¬((S.cn++List.replicate k 0).length:Int)<=i:=hle;have hil:i.toNat<(S.cn++List.replicate k 0).length:=by omega
  have hdb:=hC.db;refine⟨hil,hil,λ_=>⟨AG.2 (by show _<=S.dead+1/\S.dead+1<=_;omega),λ_=>⟨λ_=>hv.1,by simpa [B4.ob] using hv',by simpa [B4.ob] using hv',?_⟩⟩⟩;obtain⟨s3,f3⟩:=s2.Tf ((S.cn++List.replicate k 0).set i.toNat 0) (S.dead+1);have ht0:=s3.ta v.toNat hv';obtain⟨s4,f4⟩:=s3.Ala hv' ⟨BL (S.ta v.toNat).ids (⟨lo,hi⟩:K2) i⟩;have s5:BX (Ac (Ac H' b (.st AA (B4.ob {S with po:=x',cn:=(S.cn++List.replicate k 0).set i.toNat 0,dead:=S.dead+1}))) S.tb[v.toNat] (.st BC ⟨BL (S.ta v.toNat).ids (⟨lo,hi⟩:K2) i⟩)) b (S.wa x' ((S.cn++List.replicate k 0).set i.toNat 0) (S.dead+1) v.toNat ⟨BL (S.ta v.toNat).ids (⟨lo,hi⟩:K2) i⟩):=s4;have hx:({S with po:=x',cn:=S.cn++List.replicate k 0}:B4).ob.tables[v.toNat]'(by simpa [B4.ob] using hv')=some S.tb[v.toNat]:=by simp [B4.ob]
  rw[hx];refine UW ht0 hnew ?_;have hcA:FD ((S.cn++List.replicate k 0).set i.toNat 0)=λj=>if j=i then 0 else FD S.cn j:=by rw[Arv (by omega) hil,Arw]
  obtain⟨c1,c2⟩:=Ax1 (d:=⟨v,lo,hi⟩) hC.cn hK hpos hlt ht.len hold (hr i hold);have e1:∀(A B:HY),A=B->BX B b (S.wa x' ((S.cn++List.replicate k 0).set i.toNat 0) (S.dead+1) v.toNat ⟨BL (S.ta v.toNat).ids (⟨lo,hi⟩:K2) i⟩)->BX A b (S.wa x' ((S.cn++List.replicate k 0).set i.toNat 0) (S.dead+1) v.toNat ⟨BL (S.ta v.toNat).ids (⟨lo,hi⟩:K2) i⟩):=λA B e h=>by rw[e];exact h
  refine h1 i (S.wa x' ((S.cn++List.replicate k 0).set i.toNat 0) (S.dead+1) v.toNat ⟨BL (S.ta v.toNat).ids (⟨lo,hi⟩:K2) i⟩) _ hroom ⟨htb,hold,hpos,by omega,hrf,rfl,rfl,rfl,rfl,ht.room,ht.many,λw=>?_,λj=>by exact congrFun hcA j⟩ (e1 _ _ (by rfl) s5) ⟨ht.inv,?_,λj d hj=>?_,?_⟩ ((f2.trans f3 rfl rfl rfl).trans f4 rfl rfl rfl)
  .show (if w=v.toNat then _ else S.ta w)=_;by_cases e:w=v.toNat
   .rw[if_pos e,if_pos e,e]
   .rw[if_neg e,if_neg e]
  .show B.Cn (A6 x') x'.at_.length (FD ((S.cn++List.replicate k 0).set i.toNat 0)) r;rw[htb,hcA];exact c1
  .show j.toNat<((S.cn++List.replicate k 0).set i.toNat 0).length;rw[List.length_set];have hj':A6 x' j=some d:=hj;rw[htb]at hj';by_cases e:j=i
   .rw[e];exact hil
   .rw[B.IQ,if_neg e]at hj';have:=hC.ln j d hj';simp;omega
  .show S.dead+1=B.sm x'.at_.length (B.zr (A6 x') (FD ((S.cn++List.replicate k 0).set i.toNat 0)));rw[htb,hcA,c2,hC.dead]
end
section
structure SI(S:B4):Prop where
 sc:SC S (Fl S.po)
 BP:B.Good S.n (Dh S.lv) (A6 S.po)
 vl:S.lv.vars.length=S.tb.length
 ll:S.lv.level.length=S.tb.length
 inv:∀(l:Nat)(v:Int),S.lv.vars[l]?=some v->0<=v/\v<S.n/\Dh S.lv v=(l:Int)
 tn:∀v:Nat,v<S.tb.length->Pq (S.ta v).ids
 tg:∀v:Nat,v<S.tb.length->∀lo hi i,Ae (S.ta v).ids (⟨lo,hi⟩:K2)=some i↔A6 S.po i=some ⟨(v:Int),lo,hi⟩
 rf:∀i,0<=Fl S.po i
theorem B4.JO{S:B4}:0<=S.n:=by unfold B4.n;omega
variable {i:Int}
theorem Ve{p:Av}(h:A6 p i=none):Fl p i=0:=by unfold Fl;rw[Ak1 h]
variable {S:B4}
theorem SI.kids(h:SI S):∀p d,A6 S.po p=some d->B.Ok (A6 S.po) d.lo/\B.Ok (A6 S.po) d.hi:=λ_ _ hd=>⟨(h.BP.lo hd).1,(h.BP.hi hd).1⟩
variable {v:Int}
theorem SI.lvl(h:SI S):0<=Dh S.lv v↔0<=v/\v<S.n:=by
 constructor
 .intro h0;unfold Dh at h0;by_cases hv:0<=v
  .rw[if_pos hv]at h0;refine⟨hv,?_⟩;by_cases hl:v.toNat<S.lv.level.length
   .rw[h.ll]at hl;unfold B4.n;omega
   .rw[List.getElem?_eq_none (by omega)]at h0;simp at h0
  .rw[if_neg hv]at h0;omega
 .intro hv;exact(h.BP.od.MT v hv.1 hv.2).1
theorem SI.ib(h:SI S){d:B.Nd}(hd:A6 S.po i=some d):0<i/\i<2000000:=by have:=h.sc.cn.KB hd;have:=h.sc.po.len;have:=h.sc.po.room;omega
structure Ip(S S':B4):Prop where
 A6:∀i d,A6 S.po i=some d->A6 S'.po i=some d
 rf:∀j,Fl S'.po j=Fl S.po j
 lv:S'.lv=S.lv
 tb:S'.tb=S.tb
 bl:S'.bl=S.bl
 bp:S'.bp=S.bp
 room:S'.po.room=S.po.room
 cn:∀i d,YtcbkbpjlbmalmaaGreatDoor.A6 S.po i=some d->FD S'.cn i=FD S.cn i
theorem Ip.refl:Ip S S:=⟨λ_ _ h=>h,λ_=>rfl,rfl,rfl,rfl,rfl,rfl,λ_ _ _=>rfl⟩
variable {S':B4}
theorem Ip.trans{S'':B4}(h:Ip S S')(k:Ip S' S''):Ip S S'':=⟨λi d hd=>k.A6 i d (h.A6 i d hd),λj=>(k.rf j).trans (h.rf j),k.lv.trans h.lv,k.tb.trans h.tb,k.bl.trans h.bl,k.bp.trans h.bp,k.room.trans h.room,λi d hd=>(k.cn i d (h.A6 i d hd)).trans (h.cn i d hd)⟩
theorem Ip.n(h:Ip S S'):S'.n=S.n:=by unfold B4.n;rw[h.tb]
theorem Ip.den(h:Ip S S')(hI:SI S){e:Int}(he:B.Ok (YtcbkbpjlbmalmaaGreatDoor.A6 S.po) e):B.den (YtcbkbpjlbmalmaaGreatDoor.A6 S'.po) e=B.den (YtcbkbpjlbmalmaaGreatDoor.A6 S.po) e:=hI.BP.Ahe B4.JO h.A6 he
variable {lo hi:Int}
theorem Amq{n:Int}{lv:Int->Int}{N:B.Tb}(g:B.Good n lv N)(hn:0<=n)(hi0:0<i)(hd:N i=some ⟨v,B.fl lo hi,B.fl hi hi⟩)(hlo:B.Ok N lo)(hhi:B.Ok N hi):B.Ok N (B.fl (2*i) hi)/\B.den N (B.fl (2*i) hi)=(λa=>if a v=true then B.den N hi a else B.den N lo a)/\B.el n lv N (B.fl (2*i) hi)=lv v:=by
 have h2:2*i/2=i:=by omega
 have hok:B.Ok N (2*i):=⟨by omega,.inr (by rw[h2];exact⟨_,hd⟩)⟩
 refine⟨hok.fl,?_,?_⟩
 .funext a;rw[B.IL hok,g.IK hn (e:=2*i) (by omega) (by rw[h2];exact hd)];have:¬(2*i%2=1):=by omega
  simp only[this,decide_false,Bool.false_xor];by_cases hv:a v=true
  .simp only[hv,if_true];rw[B.IL hhi];simp
  .simp only[hv];rw[if_neg (by simp),if_neg (by simp),B.IL hlo];simp
 .rw[B.Kt,B.Bl (by omega) (by rw[h2];exact hd)]
theorem SI.add(h:SI S)(ha:Afd S v lo hi i S')(hc:SC S' (Fl S.po))(hv:0<=v/\v<S.n)(hlo:B.Ok (A6 S.po) lo)(hhi:B.Ok (A6 S.po) hi)(h1:Dh S.lv v<B.el S.n (Dh S.lv) (A6 S.po) lo)(h2:Dh S.lv v<B.el S.n (Dh S.lv) (A6 S.po) hi)(hne:lo≠hi)(hreg:hi%2=0)(hnew:Ae (S.ta v.toNat).ids (⟨lo,hi⟩:K2)=none):SI S'/\Ip S S':=by
 have hv':v.toNat<S.tb.length:=by have:=hv.2;unfold B4.n at this;omega
 have hvv:((v.toNat:Nat):Int)=v:=by omega
 have hn:S'.n=S.n:=by unfold B4.n;rw[ha.tb]
 have hrf:Fl S'.po=Fl S.po:=funext ha.rf;refine⟨⟨by rw[hrf];exact hc,?_,?_,?_,?_,?_,?_,?_⟩,⟨λj d hj=>?_,ha.rf,ha.lv,ha.tb,ha.bl,ha.bp,ha.room,λj d hj=>?_⟩⟩
 .rw[hn,ha.lv,ha.A6];refine h.BP.add ha.pos ha.KR hv.1 hv.2 hlo hhi h1 h2 hne hreg λj hj=>?_;have:=(h.tg v.toNat hv' lo hi j).2 (by rw[hvv];exact hj);rw[hnew]at this;cases this
 .rw[ha.lv,ha.tb];exact h.vl
 .rw[ha.lv,ha.tb];exact h.ll
 .rw[ha.lv,hn];exact h.inv
 .intro w hw;rw[ha.tb]at hw;rw[ha.ta];split
  .exact J5 (h.tn w hw) _ _
  .exact h.tn w hw
 .intro w hw lo' hi' j;rw[ha.tb]at hw;rw[ha.ta,ha.A6];by_cases e:w=v.toNat
  .subst e;rw[if_pos rfl];simp only;rw[C9];by_cases ek:(⟨lo',hi'⟩:K2)=⟨lo,hi⟩
   .rw[if_pos ek];obtain⟨rfl,rfl⟩:lo'=lo/\hi'=hi:=by injection ek with a b;exact⟨a,b⟩
    constructor
    .intro hj;obtain rfl:i=j:=by injection hj
     rw[hvv];exact if_pos rfl
    .intro hj;unfold B.IQ at hj;split at hj
     .rename_i e;rw[e]
     .rw[<-h.tg v.toNat hv',hnew]at hj;cases hj
   .rw[if_neg ek,h.tg v.toNat hv'];unfold B.IQ;split
    .rename_i e;subst e;rw[ha.KR];constructor
     .intro hj;cases hj
     .intro hj;injection hj with hj
      injection hj with _ a b
      exact absurd (by rw[a,b]) ek
    .rfl
  .rw[if_neg e,h.tg w hw];unfold B.IQ;split
   .rename_i e2;subst e2;rw[ha.KR];constructor
    .intro hj;cases hj
    .intro hj;injection hj with hj
     injection hj with a _ _
     omega
   .rfl
 .rw[hrf];exact h.rf
 .rw[ha.A6];exact B.SH ha.KR j d hj
 .rw[ha.cn,if_neg];intro e;rw[e,ha.KR]at hj;cases hj
theorem Aan{b:Nat}{H:HY}{X:PX}{Q:Int×Int×Unit->UU}(hS:BX H b S)(hI:SI S)(h9:¬(0<=v/\v<S.n)->Q (0,9,()) () H)(h8:¬(B.Ok (A6 S.po) lo/\B.Ok (A6 S.po) hi)->Q (0,8,()) () H)(hx:0<=v->v<S.n->B.Ok (A6 S.po) lo->B.Ok (A6 S.po) hi->¬(Dh S.lv v<B.el S.n (Dh S.lv) (A6 S.po) lo/\Dh S.lv v<B.el S.n (Dh S.lv) (A6 S.po) hi)->Q (0,10,()) () H)(h7:S.po.many=S.po.room->Q (0,7,()) () H)(h:∀e S' H',0<=v->v<S.n->B.Ok (A6 S.po) lo->B.Ok (A6 S.po) hi->Dh S.lv v<B.el S.n (Dh S.lv) (A6 S.po) lo->Dh S.lv v<B.el S.n (Dh S.lv) (A6 S.po) hi->BX H' b S'->SI S'->Ip S S'->NF b S H H'->B.Ok (A6 S'.po) e->B.den (A6 S'.po) e=(λa=>if a v=true then B.den (A6 S.po) hi a else B.den (A6 S.po) lo a)->Dh S.lv v<=B.el S.n (Dh S.lv) (A6 S'.po) e->(∀i d,A6 S'.po i=some d->A6 S.po i=some d∨(i=e/2/\d.v=v))->Q (e,0,()) () H'):Wp Y0 Fq Eb (some b,v,lo,hi,()) H Q X:=by
 apply Tr;unfold Mz;have hP:=hI.sc.po;refine⟨λh=>absurd h (by simp),λ_=>Gr hS ⟨λhl=>h9 λhv=>?_,λhl=>?_⟩⟩
 .have:=hI.lvl.2 hv;have hl':Dh S.lv v<0:=hl;omega
 have hl':¬Dh S.lv v<0:=hl;have hv:=(hI.lvl (v:=v)).1 (by omega);have hlv:=(hI.BP.od.MT v hv.1 hv.2).2;refine JL hS hP λt ht=>⟨λhn=>h8 λho=>hn (ht.2 ho.1),λhn=>?_⟩
 have hlo:=ht.1 (Classical.not_not.1 hn);refine JL hS hP λt ht=>⟨λhn=>h8 λho=>hn (ht.2 ho.2),λhn=>?_⟩
 have hhi:=ht.1 (Classical.not_not.1 hn);refine Gr hS (Oo hS hP hlo hlv ⟨λhn=>hx hv.1 hv.2 hlo hhi λho=>hn (decide_eq_true ho.1),λhn=>?_⟩);have h1:Dh S.lv v<B.el S.n (Dh S.lv) (A6 S.po) lo:=of_decide_eq_true (Classical.not_not.1 hn);refine Gr hS (Oo hS hP hhi hlv ⟨λhn=>hx hv.1 hv.2 hlo hhi λho=>hn (decide_eq_true ho.2),λhn=>?_⟩);have h2:Dh S.lv v<B.el S.n (Dh S.lv) (A6 S.po) hi:=of_decide_eq_true (Classical.not_not.1 hn);refine⟨λe=>?_,λhne=>⟨b,rfl,S.ob,hS.st,λ_=>⟨λ_=>hv.1,?_⟩⟩⟩
 .subst e;refine h lo S H hv.1 hv.2 hlo hhi h1 h2 hS hI Ip.refl NF.refl hlo (by funext a;simp) (by omega) (λi d hd=>.inl hd)
 have hv':v.toNat<S.tb.length:=by have:=hv.2;unfold B4.n at this;omega
 have hvv:((v.toNat:Nat):Int)=v:=by omega
 have hob:v.toNat<S.ob.tables.length:=by simpa [B4.ob] using hv'
 have hxx:S.ob.tables[v.toNat]'hob=some S.tb[v.toNat]:=by simp [B4.ob]
 refine⟨hob,hob,rfl,?_⟩;rw[hxx];have hb:∀e:Int,A8 e (Bc hi)=B.fl e hi:=λe=>J4 hhi.1;rw[hb lo,hb hi];refine On (hS.ta v.toNat hv') (λhnew=>⟨λ_=>?_,λh=>absurd (by simp) h⟩) λi hi'=>⟨λh=>absurd rfl h,λ_=>⟨λh=>absurd rfl h,λ_=>?_⟩⟩
 .refine R1 hS hI.sc hI.kids (λ_=>Ve) hv hnew (λhm=>⟨λ_=>h7 hm,λh=>absurd (by simp) h⟩) λi S' H' hroom ha s1 c1 f1=>⟨λh=>absurd rfl h,λ_=>⟨λ_=>?_,?_⟩⟩
  .have:=ha.lt;show i<=_;omega
  .obtain⟨hI',hE⟩:=hI.add ha c1 hv hlo.fl hhi.fl (by rw[B.Kt];exact h1) (by rw[B.Kt];exact h2) (λe=>hne (B.QU e)) B.TV hnew;have hd:A6 S'.po i=some ⟨v,B.fl lo hi,B.fl hi hi⟩:=by rw[ha.A6];exact B.TE
   obtain⟨k1,k2,k3⟩:=Amq hI'.BP B4.JO ha.pos hd (hlo.ext hE.A6) (hhi.ext hE.A6);have hpos:=ha.pos;have:A8 (2*max i 0) (Bc hi)=B.fl (2*i) hi:=by rw[hb,show max i 0=i by omega]
   show Q (A8 (2*max i 0) (Bc hi),0,()) () H';rw[this];refine h _ S' H' hv.1 hv.2 hlo hhi h1 h2 s1 hI' hE f1 k1 ?_ ?_ ?_
   .rw[k2,hE.den hI hlo,hE.den hI hhi]
   .rw[hE.n,hE.lv]at k3;rw[k3];exact Int.le_refl _
   .intro j d' hj;rw[ha.A6]at hj;unfold B.IQ at hj;split at hj
    .rename_i e';cases hj;refine .inr ⟨?_,rfl⟩;rw[e',B.Aew];omega
    .exact .inl hj
 .have hd:=(hI.tg v.toNat hv' _ _ _).1 hi';rw[hvv]at hd;have hpos:=hI.ib hd;obtain⟨k1,k2,k3⟩:=Amq hI.BP B4.JO hpos.1 hd hlo hhi;refine⟨λ_=>by show i<=_;omega,?_⟩;have:A8 (2*max i 0) (Bc hi)=B.fl (2*i) hi:=by rw[hb,show max i 0=i by omega]
  show Q (A8 (2*max i 0) (Bc hi),0,()) () H;rw[this];exact h _ S H hv.1 hv.2 hlo hhi h1 h2 hS hI Ip.refl NF.refl k1 k2 (by rw[k3];exact Int.le_refl _) (λi d hd=>.inl hd)
end
section
structure ZS(S S':B4)(g:Int->Int):Prop where
 A6:A6 S'.po=A6 S.po
 rf:∀j,j≠0->Fl S'.po j=g j
 lv:S'.lv=S.lv
 tb:S'.tb=S.tb
 bl:S'.bl=S.bl
 bp:S'.bp=S.bp
 ta:S'.ta=S.ta
 room:S'.po.room=S.po.room
 many:S'.po.many=S.po.many
variable {S:B4}
theorem ZS.n{S':B4}{g:Int->Int}(h:ZS S S' g):S'.n=S.n:=by unfold B4.n;rw[h.tb]
theorem Af7{p:Av}(h:Fw p):Fl p 0=0:=by unfold Fl;rw[Abd h]
theorem ZS.si{S':B4}{g:Int->Int}(k:ZS S S' g)(h:SI S)(hc:SC S' g)(hg:∀j,0<=g j):SI S':=by
 refine⟨⟨hc.po,hc.cn.congr λi hi=>(k.rf i (by omega)).symm,hc.ln,hc.dead⟩,?_,?_,?_,?_,?_,?_,?_⟩
 .rw[k.n,k.lv,k.A6];exact h.BP
 .rw[k.lv,k.tb];exact h.vl
 .rw[k.lv,k.tb];exact h.ll
 .rw[k.lv,k.n];exact h.inv
 .rw[k.tb,k.ta];exact h.tn
 .rw[k.tb,k.ta,k.A6];exact h.tg
 .intro i;by_cases e:i=0
  .rw[e,Af7 hc.po];exact Int.le_refl _
  .rw[k.rf i e];exact hg i
theorem Aa2{p p':Av}{i:Int}{n:Ap}{x:Int}(hn:Gi p i=some n)(h:∀j,Gi p' j=if j=i then some {n with Refs:=n.Refs+x} else Gi p j):A6 p'=A6 p/\∀j,Fl p' j=if j=i then Fl p j+x else Fl p j:=by
 constructor
 .funext j;unfold A6;rw[h];by_cases e:j=i
  .rw[if_pos e,e,hn];rfl
  .rw[if_neg e]
 .intro j;unfold Fl;rw[h];by_cases e:j=i
  .rw[if_pos e,if_pos e,e,hn]
  .rw[if_neg e,if_neg e]
def B4.wp(S:B4)(po:Av):B4:={S with po:=po}
theorem Xc{b:Nat}{f:Int}{H:HY}{X:PX}{Q:Int×Unit->UU}(hS:BX H b S)(hI:SI S)(hb:∀i,Fl S.po i<1152921504606846976)(h8:¬B.Ok (A6 S.po) f->Q (8,()) () H)(h:∀S' H',B.Ok (A6 S.po) f->BX H' b S'->SI S'->ZS S S' (λi=>Fl S.po i+B.dl f i)->NF b S H H'->Q (0,()) () H'):Wp Y0 HU F7 (some b,f,()) H Q X:=by
 apply QN;unfold KX;have hP:=hI.sc.po;refine⟨λh=>absurd h (by simp),λ_=>JL hS hP λt ht=>⟨λhn=>h8 λho=>hn (ht.2 ho),λhn=>?_⟩⟩;have hf:=ht.1 (Classical.not_not.1 hn);rw[J3 hf.1];have key:Wp Y0 AI AE (some S.bp,f/2,()) H (λ(b_1:Ap×Bool×Unit)io H'=>
   (b_1.2.1=true->Ag .i64 b_1.1.Refs->Ag .i64 (b_1.1.Refs+1)/\∃(x:Aa),H' b=some (Ob.st AA x)/\{levels:=x.levels,Ba:=x.Ba,tables:=x.tables,counts:=x.counts,dead:=x.dead:Aa}=x/\
    Wp Y0 BH B8 (x.Ba,{ID:=b_1.1.ID,Var:=b_1.1.Var,Lo:=b_1.1.Lo,Hi:=b_1.1.Hi,Refs:=b_1.1.Refs+1:Ap},()) H' (λ(_:Int×Unit)io H'=>Wp Y0 Bt Bm (some b,f,()) H' (λ(_ io:Unit)(H':HY)=>Q (0,()) () H') X) X)/\
   (¬b_1.2.1=true->Q (0,()) () H')) X:=by
  refine Gz hS.po hP (λhn=>⟨λh=>absurd h (by simp),λ_=>?_⟩) λn hn=>⟨λ_ _=>?_,λh=>absurd rfl h⟩
  .have h0:f/2=0:=by
    rcases hf.2 with h|⟨d,hd⟩
    .exact h
    .obtain⟨m,hm,_⟩:=Gq hd;rw[hn]at hm;cases hm
   refine h S H hf hS hI ⟨rfl,λj hj=>?_,rfl,rfl,rfl,rfl,rfl,rfl,rfl⟩ NF.refl;rw[B.Ku (by omega)];omega
  .have hid:=hP.id _ _ hn
   have h0:=(hP.tk (i:=f/2) (by
    unfold Gi at hn;split at hn
    .rename_i h;exact h
    .cases hn)).1
   have hR:Fl S.po (f/2)=n.Refs:=by unfold Fl;rw[hn]
   have hb1:=hb (f/2)
   have hb2:=hI.rf (f/2)
   rw[hR]at hb1 hb2
   refine⟨AG.2 (by show _<=n.Refs+1/\n.Refs+1<=_;omega),S.ob,hS.st,rfl,?_⟩
   refine O0 hS.po hP (λh=>?_) λm x' hm hx' hj hmany hroom hlen=>?_
   .have h':Gi S.po n.ID=none:=h
    rw[hid,hn]at h';cases h'
   .obtain⟨t1,t2⟩:=Aa2 (x:=1) hn λj=>by rw[hj];show (if j=n.ID then _ else _)=_;rw[hid]
    obtain⟨s1,f1⟩:=hS.Alb x'
    have hC:SC (S.wp x') (Fl S.po):=by
     refine⟨hx',?_,?_,?_⟩
     .show B.Cn (A6 x') x'.at_.length (FD S.cn) _;rw[t1,hlen];exact hI.sc.cn
     .show ∀i d,A6 x' i=some d->_;rw[t1];exact hI.sc.ln
     .show S.dead=B.sm x'.at_.length (B.zr (A6 x') (FD S.cn));rw[t1,hlen];exact hI.sc.dead
    have hD:=hI.BP.dag
    rw[<-t1]at hD
    refine LM (S:=S.wp x') (S.n.toNat+1) hD (λh2=>?_) s1 hC ?_ (λi d _=>?_) λcn dead H' s2 c2 _ f2=>?_
    .obtain⟨d,hd⟩:=hf.2.resolve_left h2
     rw[<-t1]at hd
     have:=hD.MT hd
     omega
    .show B.Ok (A6 x') f;rw[t1];exact hf
    .have:=hb i;have:=@B.G8 f i;omega
    .have hk:ZS S ((S.wp x').wc cn dead) (λi=>Fl S.po i+B.dl f i):=⟨t1,λj hj=>by
      show Fl x' j=_;rw[t2];by_cases e:j=f/2
      .rw[if_pos e,e,B.GU]
      .rw[if_neg e,B.Ku e];omega,rfl,rfl,rfl,rfl,rfl,hroom,hmany⟩
     exact h _ H' hf s2 (hk.si hI c2 λj=>by have:=hI.rf j;have:=@B.G8 f j;omega) hk (f1.trans f2 rfl rfl rfl)
 exact⟨b,rfl,⟨S.ob,hS.st,⟨rfl,key⟩,rfl,key⟩,S.ob,hS.st,rfl,key⟩
theorem Xd{b:Nat}{f:Int}{H:HY}{X:PX}{Q:Int×Unit->UU}(hS:BX H b S)(hI:SI S)(hb:∀i,Fl S.po i<1152921504606846976)(h8:¬B.Ok (A6 S.po) f->Q (8,()) () H)(h0:B.Ok (A6 S.po) f->f/2=0->Q (0,()) () H)(h5:B.Ok (A6 S.po) f->f/2≠0->Fl S.po (f/2)=0->Q (5,()) () H)(h:∀S' H',B.Ok (A6 S.po) f->f/2≠0->0<Fl S.po (f/2)->BX H' b S'->SI S'->ZS S S' (λi=>Fl S.po i-B.dl f i)->NF b S H H'->Q (0,()) () H'):Wp Y0 HV F8 (some b,f,()) H Q X:=by
 apply QO;unfold KY;have hP:=hI.sc.po;refine⟨λh=>absurd h (by simp),λ_=>JL hS hP λt ht=>⟨λhn=>h8 λho=>hn (ht.2 ho),λhn=>?_⟩⟩;have hf:=ht.1 (Classical.not_not.1 hn);rw[J3 hf.1];have key:Wp Y0 AI AE (some S.bp,f/2,()) H (λ(b_1:Ap×Bool×Unit)io H'=>
   (¬b_1.2.1=true->Q (0,()) () H')/\(¬¬b_1.2.1=true->(b_1.1.Refs=(0:Int)->Q (5,()) () H')/\(¬b_1.1.Refs=(0:Int)->Ag .i64 b_1.1.Refs->Ag .i64 (b_1.1.Refs-1)/\∃(x:Aa),H' b=some (Ob.st AA x)/\{levels:=x.levels,Ba:=x.Ba,tables:=x.tables,counts:=x.counts,dead:=x.dead:Aa}=x/\
    Wp Y0 BH B8 (x.Ba,{ID:=b_1.1.ID,Var:=b_1.1.Var,Lo:=b_1.1.Lo,Hi:=b_1.1.Hi,Refs:=b_1.1.Refs-1:Ap},()) H' (λ(_:Int×Unit)io H'=>Wp Y0 Bu Bn (some b,f,()) H' (λ(_ io:Unit)(H':HY)=>Q (0,()) () H') X) X))) X:=by
  refine Gz hS.po hP (λhn=>⟨λ_=>?_,λh=>absurd (by simp) h⟩) λn hn=>⟨λh=>absurd rfl h,λ_=>⟨λhz=>?_,λhz _=>?_⟩⟩
  .refine h0 hf ?_
   rcases hf.2 with h|⟨d,hd⟩
   .exact h
   .obtain⟨m,hm,_⟩:=Gq hd;rw[hn]at hm;cases hm
  .refine h5 hf (λe=>by rw[e,Abd hP]at hn;cases hn) ?_
   unfold Fl;rw[hn];exact hz
  .have hid:=hP.id _ _ hn
   have hne:f/2≠0:=λe=>by rw[e,Abd hP]at hn;cases hn
   have hR:Fl S.po (f/2)=n.Refs:=by unfold Fl;rw[hn]
   have hb1:=hb (f/2)
   have hb2:=hI.rf (f/2)
   rw[hR]at hb1 hb2
   have hz':¬n.Refs=0:=hz
   refine⟨AG.2 (by show _<=n.Refs-1/\n.Refs-1<=_;omega),S.ob,hS.st,rfl,?_⟩
   refine O0 hS.po hP (λh=>?_) λm x' hm hx' hj hmany hroom hlen=>?_
   .have h':Gi S.po n.ID=none:=h
    rw[hid,hn]at h';cases h'
   .obtain⟨t1,t2⟩:=Aa2 (x:=-1) hn λj=>by rw[hj];show (if j=n.ID then _ else _)=_;rw[hid];rfl
    obtain⟨s1,f1⟩:=hS.Alb x'
    have hC:SC (S.wp x') (Fl S.po):=by
     refine⟨hx',?_,?_,?_⟩
     .show B.Cn (A6 x') x'.at_.length (FD S.cn) _;rw[t1,hlen];exact hI.sc.cn
     .show ∀i d,A6 x' i=some d->_;rw[t1];exact hI.sc.ln
     .show S.dead=B.sm x'.at_.length (B.zr (A6 x') (FD S.cn));rw[t1,hlen];exact hI.sc.dead
    have hD:=hI.BP.dag
    rw[<-t1]at hD
    have hpos:∀i,B.dl f i<=Fl S.po i:=λi=>by
     by_cases e:i=f/2
     .rw[e,B.GU,hR];omega
     .rw[B.Ku e];exact hI.rf i
    refine LN (S:=S.wp x') (S.n.toNat+1) hD (λh2=>?_) s1 hC ?_ (λi d _=>hpos i) λcn dead H' s2 c2 f2=>?_
    .obtain⟨d,hd⟩:=hf.2.resolve_left h2
     rw[<-t1]at hd
     have:=hD.MT hd
     omega
    .show B.Ok (A6 x') f;rw[t1];exact hf
    .have hk:ZS S ((S.wp x').wc cn dead) (λi=>Fl S.po i-B.dl f i):=⟨t1,λj hj=>by
      show Fl x' j=_;rw[t2];by_cases e:j=f/2
      .rw[if_pos e,e,B.GU];omega
      .rw[if_neg e,B.Ku e];omega,rfl,rfl,rfl,rfl,rfl,hroom,hmany⟩
     exact h _ H' hf hne (by omega) s2 (hk.si hI c2 λj=>by have:=hpos j;omega) hk (f1.trans f2 rfl rfl rfl)
 exact⟨b,rfl,⟨S.ob,hS.st,⟨rfl,key⟩,rfl,key⟩,S.ob,hS.st,rfl,key⟩
end
section
set_option maxRecDepth 100000
set_option maxHeartbeats 2000000
def Ql(m:Option Nat)(f g:Int)(H:HY)(Q:Bool×Int×Unit->UU)(X:PX):=(m=none->Q (false,5,()) () H)/\(¬m=none->∃(b:Nat),m=some b/\∃(x:Aw),H b=some (Ob.st CV x)/\(¬(Ae x.Ak f).isSome=true->{store:=x.store,BG:=x.BG,Ak:=x.Ak,Au:=x.Au,waits:=x.waits,calls:=x.calls:Aw}=x/\Q (false,8,()) () H)/\(¬¬(Ae x.Ak f).isSome=true->(¬(Ae x.Ak g).isSome=true->{store:=x.store,BG:=x.BG,Ak:=x.Ak,Au:=x.Au,waits:=x.waits,calls:=x.calls:Aw}=x/\Q (false,8,()) () H)/\(¬¬(Ae x.Ak g).isSome=true->{store:=x.store,BG:=x.BG,Ak:=x.Ak,Au:=x.Au,waits:=x.waits,calls:=x.calls:Aw}=x/\Q (decide ((Ae x.Ak f).getD (0:Int)=(Ae x.Ak g).getD 0),0,()) () H)))
theorem Xo m f g H Q X(h_:Ql m f g H Q X):Wp Y0 CW CC (m,f,g,()) H Q X:=wF Tryz.f29 {} h_
def Acp(vars room:Int)(H:HY)(Q:Option Nat×Int×Unit->UU)(X:PX):=Wp Y0 OJ L2 (vars,room,()) H (λ(b:Option Nat×Int×Unit)_ G=>(¬b.2.1=0->Q (none,b.2.1,()) () G)/\(¬¬b.2.1=0->Wp Y0 VZ Q8 (4096,()) G (λ(b1:Option Nat×Unit)_ G=>∀(b2:Nat),G b2=none->Q (some b2,0,()) () (Ac G b2 (Ob.st CV {store:=b.1,BG:=b1.1,Ak:=BL (BL [] 0 1) 1 0,Au:=(2:Int),waits:=[],calls:=(0:Int):Aw}))) X)) X
theorem An2 vars room H Q X(h_:Acp vars room H Q X):Wp Y0 Sq Ov (vars,room,()) H Q X:=wF Tryz.f33 {pr:=[(23,0)]} h_
def Qm(m:Option Nat)(l:List Bz)(H:HY)(Q:Int×Unit->UU)(X:PX):=(m=none->Q (5,()) () H)/\(¬m=none->l.length<=9223372036854775807->∃(b:Nat),m=some b/\∃(x:Aw),H b=some (Ob.st CV x)/\(x.waits.length<=9223372036854775807->x.waits.length<=9223372036854775807->Ag .i64 (256-(↑x.waits.length:Int))/\(256-(↑x.waits.length:Int)<(↑l.length:Int)->{store:=x.store,BG:=x.BG,Ak:=x.Ak,Au:=x.Au,waits:=x.waits,calls:=x.calls:Aw}=x/\Q (18,()) () H)/\(¬256-(↑x.waits.length:Int)<(↑l.length:Int)->l.length<=9223372036854775807->{store:=x.store,BG:=x.BG,Ak:=x.Ak,Au:=x.Au,waits:=x.waits,calls:=x.calls:Aw}=x/\∃(V:Nat->Nat×Unit->HP),(∃(n:Nat),V n (0,()) H)/\∀n x H,V n x H->(x.1<l.length->x.1<=9223372036854775807->∃(h:x.1<l.length),(l[x.1].Kind<1->Q (11,()) () H)/\(¬l[x.1].Kind<1->((3:Int)<l[x.1].Kind->Q (11,()) () H)/\(¬(3:Int)<l[x.1].Kind->(l[x.1].El<1->Q (2,()) () H/\Q (2,()) () H)/\(¬l[x.1].El<1->(l[x.1].Kind=2->(l[x.1].Level<0->Q (2,()) () H/\Q (2,()) () H)/\(¬l[x.1].Level<0->Wp Y0 DZ D7 (m,()) H (λ(b:Int×Unit)_ G=>Ag .i64 b.1->Ag .i64 (b.1-1)/\(b.1-1<=l[x.1].Level->Q (2,()) () G)/\(¬b.1-1<=l[x.1].Level->x.1+1<=9223372036854775807/\∃m,m<n/\V m (x.1+1,()) G)) X/\Wp Y0 DZ D7 (m,()) H (λ(b:Int×Unit)_ G=>Ag .i64 b.1->Ag .i64 (b.1-1)/\(b.1-1<=l[x.1].Level->Q (2,()) () G)/\(¬b.1-1<=l[x.1].Level->x.1+1<=9223372036854775807/\∃m,m<n/\V m (x.1+1,()) G)) X))/\(¬l[x.1].Kind=2->(x.1+1<=9223372036854775807/\∃m,m<n/\V m (x.1+1,()) H)/\x.1+1<=9223372036854775807/\∃m,m<n/\V m (x.1+1,()) H)))))/\(¬x.1<l.length->∃(x:Aw),H b=some (Ob.st CV x)/\(x.waits.length<=9223372036854775807->(x.waits.length=0->(x.waits.length+l.length)*24<=140737488355328/\Q (0,()) () (Ac H b (Ob.st CV {x with waits:=x.waits++l,calls:=(0:Int)})))/\(¬x.waits.length=0->(x.waits.length+l.length)*24<=140737488355328/\Q (0,()) () (Ac H b (Ob.st CV {x with waits:=x.waits++l}))))))))
theorem Xp m l H Q X(h_:Qm m l H Q X):Wp Y0 Me Jw (m,l,()) H Q X:=wF Tryz.f39 {lp:=[(6,⟨[(20,.nat)],[0,1,18,19],true⟩)]} h_
def Qj(m:Option Nat)(H:HY)(Q:Int×Unit->UU)(X:PX):=(m=none->Q (0,()) () H)/\(¬m=none->∃(b:Nat),m=some b/\∃(x:Aw),H b=some (Ob.st CV x)/\{store:=x.store,BG:=x.BG,Ak:=x.Ak,Au:=x.Au,waits:=x.waits,calls:=x.calls:Aw}=x/\Wp Y0 HS F5 (x.store,()) H (λ(b:Int×Unit)_ G=>Q (b.1,()) () G) X)
theorem Xm m H Q X(h_:Qj m H Q X):Wp Y0 DZ D7 (m,()) H Q X:=wF Tryz.f50 {} h_
def OS(m:Option Nat)(H:HY)(Q:List Int×Unit->UU)(X:PX):=(m=none->Q ([],()) () H)/\(¬m=none->∃(b:Nat),m=some b/\∃(x:Aw),H b=some (Ob.st CV x)/\{store:=x.store,BG:=x.BG,Ak:=x.Ak,Au:=x.Au,waits:=x.waits,calls:=x.calls:Aw}=x/\Wp Y0 DL Dd (x.store,()) H (λ(b:List Int×Unit)_ G=>Q (b.1,()) () G) X)
theorem Wi m H Q X(h_:OS m H Q X):Wp Y0 Ld I8 (m,()) H Q X:=wF Tryz.f87 {} h_
def Qp(m:Option Nat)(l:List Int)(H:HY)(Q:Int×Unit->UU)(X:PX):=(m=none->Q (5,()) () H)/\(¬m=none->l.length<=9223372036854775807->∃(V:Nat->Nat×Unit->HP),(∃(n:Nat),V n (0,()) H)/\∀n x H,V n x H->(x.1<l.length->x.1<=9223372036854775807->∃(h:x.1<l.length),∃(b:Nat),m=some b/\∃(x1:Aw),H b=some (Ob.st CV x1)/\(¬(Ae x1.Ak l[x.1]).isSome=true->{store:=x1.store,BG:=x1.BG,Ak:=x1.Ak,Au:=x1.Au,waits:=x1.waits,calls:=x1.calls:Aw}=x1/\Q (8,()) () H)/\(¬¬(Ae x1.Ak l[x.1]).isSome=true->((1:Int)<l[x.1]->{store:=x1.store,BG:=x1.BG,Ak:=x1.Ak,Au:=x1.Au,waits:=x1.waits,calls:=x1.calls:Aw}=x1/\Wp Y0 HV F8 (x1.store,(Ae x1.Ak l[x.1]).getD 0,()) H (λ(b1:Int×Unit)_ G=>∃(x2:Aw),G b=some (Ob.st CV x2)/\x.1+1<=9223372036854775807/\∃m,m<n/\V m (x.1+1,()) (Ac G b (Ob.st CV {x2 with Ak:=Df x2.Ak l[x.1]}))) X)/\(¬(1:Int)<l[x.1]->x.1+1<=9223372036854775807/\∃m,m<n/\{store:=x1.store,BG:=x1.BG,Ak:=x1.Ak,Au:=x1.Au,waits:=x1.waits,calls:=x1.calls:Aw}=x1/\V m (x.1+1,()) H)))/\(¬x.1<l.length->Q (0,()) () H))
theorem Xs m l H Q X(h_:Qp m l H Q X):Wp Y0 EK DW (m,l,()) H Q X:=wF Tryz.f110 {lp:=[(4,⟨[(13,.nat)],[0,11,12],true⟩)]} h_
def TZ(m:Option Nat)(op:Option Nat×Unit->HY->(Int×Unit->HP)->PX->Prop)(H:HY)(Q:Int×Int×Unit->UU)(X:PX):=(m=none->Q (0,5,()) () H)/\(¬m=none->∀(b:Nat),H b=none->Wp Y0 K7 I7 (m,λ(a:Option Nat×Unit)(H:HY)(Q:Unit->HP)(X:Nat->Lf Y0.D->HP)=>Wp Y0 Qh LR (a.1,op,some b,()) H (λ(b x:Unit)(G:HY)=>Q () G) X,()) (Ac H b (Ob.st Ch (0:Int))) (λ(b1:Int×Unit)_ G=>(¬b1.1=0->Q (0,b1.1,()) () G)/\(¬¬b1.1=0->∃(b2:Nat),m=some b2/\∃(x:Aw),G b2=some (Ob.st CV x)/\{store:=x.store,BG:=x.BG,Ak:=x.Ak,Au:=x.Au,waits:=x.waits,calls:=x.calls:Aw}=x/\∃(x1:Int),G b=some (Ob.st Ch x1)/\x1=x1/\Wp Y0 Dx CO (x.store,x1,()) G (λ(b3:Bool×Unit)_ G=>(¬b3.1=true->Q (0,8,()) () G)/\(¬¬b3.1=true->∃(x:Int),G b=some (Ob.st Ch x)/\x=x/\Wp Y0 J8 Hn (m,x,()) G (λ(b:Int×Unit)_ G=>Q (b.1,0,()) () G) X)) X)) X)
theorem Acq m op H Q X(h_:TZ m op H Q X):Wp Y0 L8 JN (m,op,()) H Q X:=wF Tryz.f125 {pr:=[(6,8)],im:=[3]} h_
def Ua(x:Option Nat)(v lo hi:Int)(H:HY)(Q:Int×Unit->UU)(X:PX):=∃(b:Nat),x=some b/\∃(x:D4),H b=some (Ob.st Ei x)/\∃(b:Nat),x.m=some b/\{m:=x.m:D4}=x/\∃(x:Aw),H b=some (Ob.st CV x)/\(x.waits.length<=9223372036854775807->(0<x.waits.length->(True->(0:Int)<=0)/\∃(h:Int.toNat (0:Int)<x.waits.length),∃(h:Int.toNat (0:Int)<x.waits.length),(x.waits[Int.toNat (0:Int)].El<=Go.IntKind.wrap .i64 (x.calls+1)->(True->(0:Int)<=0)/\∃(h:Int.toNat (0:Int)<x.waits.length),∃(h:Int.toNat (0:Int)<x.waits.length),(0:Int)<=1/\Int.toNat (1:Int)<=x.waits.length/\X 231 {t:=Ty.u 15,x:={err:=(0:Int),event:=true,ev:={El:=x.waits[Int.toNat (0:Int)].El,Kind:=x.waits[Int.toNat (0:Int)].Kind,Level:=x.waits[Int.toNat (0:Int)].Level:Bz}:Fb}  :Lf Y0.D} (Ac H b (Ob.st CV {x with waits:=List.drop (Int.toNat (1:Int)) x.waits,calls:=(0:Int)})))/\(¬x.waits[Int.toNat (0:Int)].El<=Go.IntKind.wrap .i64 (x.calls+1)->Wp Y0 Fq Eb (x.store,v,lo,hi,()) (Ac H b (Ob.st CV {x with calls:=Go.IntKind.wrap .i64 (x.calls+1)})) (λ(b:Int×Int×Unit)_ G=>(¬b.2.1=0->X 231 {t:=Ty.u 15,x:={err:=b.2.1,event:=false,ev:={El:=(0:Int),Kind:=(0:Int),Level:=(0:Int):Bz}:Fb}  :Lf Y0.D} G)/\(¬¬b.2.1=0->Q (b.1,()) () G)) X))/\(¬0<x.waits.length->Wp Y0 Fq Eb (x.store,v,lo,hi,()) (Ac H b (Ob.st CV {x with calls:=Go.IntKind.wrap .i64 (x.calls+1)})) (λ(b:Int×Int×Unit)_ G=>(¬b.2.1=0->X 231 {t:=Ty.u 15,x:={err:=b.2.1,event:=false,ev:={El:=(0:Int),Kind:=(0:Int),Level:=(0:Int):Bz}:Fb}  :Lf Y0.D} G)/\(¬¬b.2.1=0->Q (b.1,()) () G)) X))
theorem Acr x v lo hi H Q X(h_:Ua x v lo hi H Q X):Wp Y0 EE DX (x,v,lo,hi,()) H Q X:=wF Tryz.f127 {wr:=[21]} h_
def Qr(m:Option Nat)(h:Int)(H:HY)(Q:Int×Int×Unit->UU)(X:PX):=(m=none->Q (0,5,()) () H)/\(¬m=none->∃(b:Nat),m=some b/\∃(x:Aw),H b=some (Ob.st CV x)/\(¬(Ae x.Ak h).isSome=true->{store:=x.store,BG:=x.BG,Ak:=x.Ak,Au:=x.Au,waits:=x.waits,calls:=x.calls:Aw}=x/\Q (0,8,()) () H)/\(¬¬(Ae x.Ak h).isSome=true->{store:=x.store,BG:=x.BG,Ak:=x.Ak,Au:=x.Au,waits:=x.waits,calls:=x.calls:Aw}=x/\Wp Y0 J8 Hn (m,(Ae x.Ak h).getD 0,()) H (λ(b:Int×Unit)_ G=>Q (b.1,0,()) () G) X))
theorem Xu m h H Q X(h_:Qr m h H Q X):Wp Y0 FR EH (m,h,()) H Q X:=wF Tryz.f131 {} h_
def OT(m:Option Nat)(yes:Bool)(H:HY)(Q:Int×Unit->UU)(X:PX):=(m=none->Q (0,()) () H)/\(¬m=none->(¬yes=true->Q (0,()) () H)/\(¬¬yes=true->Q (1,()) () H))
theorem Wj m yes H Q X(h_:OT m yes H Q X):Wp Y0 II Gu (m,yes,()) H Q X:=wF Tryz.f132 {} h_
def Wo(x:Option Nat)(v:Int)(H:HY)(Q:Int×Unit->UU)(X:PX):=∃(b:Nat),x=some b/\∃(x:D4),H b=some (Ob.st Ei x)/\∃(b:Nat),x.m=some b/\{m:=x.m:D4}=x/\∃(x:Aw),H b=some (Ob.st CV x)/\{store:=x.store,BG:=x.BG,Ak:=x.Ak,Au:=x.Au,waits:=x.waits,calls:=x.calls:Aw}=x/\Wp Y0 B6 Bv (x.store,v,()) H (λ(b:Int×Unit)_ G=>Q (b.1,()) () G) X
theorem Wn x v H Q X(h_:Wo x v H Q X):Wp Y0 Db CD (x,v,()) H Q X:=wF Tryz.f145 {} h_
def Xw(x:Option Nat)(h:Int)(H:HY)(Q:Int×Unit->UU)(X:PX):=∃(b:Nat),x=some b/\∃(x:D4),H b=some (Ob.st Ei x)/\∃(b:Nat),x.m=some b/\{m:=x.m:D4}=x/\∃(x:Aw),H b=some (Ob.st CV x)/\(¬(Ae x.Ak h).isSome=true->{store:=x.store,BG:=x.BG,Ak:=x.Ak,Au:=x.Au,waits:=x.waits,calls:=x.calls:Aw}=x/\X 231 {t:=Ty.u 15,x:={err:=(8:Int),event:=false,ev:={El:=(0:Int),Kind:=(0:Int),Level:=(0:Int):Bz}:Fb}  :Lf Y0.D} H)/\(¬¬(Ae x.Ak h).isSome=true->{store:=x.store,BG:=x.BG,Ak:=x.Ak,Au:=x.Au,waits:=x.waits,calls:=x.calls:Aw}=x/\Q ((Ae x.Ak h).getD 0,()) () H)
theorem Xv x h H Q X(h_:Xw x h H Q X):Wp Y0 FU EI (x,h,()) H Q X:=wF Tryz.f147 {} h_
def S9(x:Option Nat)(f g h:Int)(H:HY)(Q:Int×Unit->UU)(X:PX):=∃(V:Nat->Int×Int×Int×Bool×Nat×Unit->HP),(∃(n:Nat),V n (f,g,h,false,0,()) H)/\∀n x1 H,V n x1 H->(x1.2.2.2.2.1<3->Wp Y0 QY Nk (x1.1,x1.2.1,x1.2.2.1,()) H (λ(b:Int×Int×Int×Bool×Int×Bool×Unit)_ G=>(b.2.2.2.2.2.1=true->Q (A8 b.2.2.2.2.1 x1.2.2.2.1,()) () G)/\(¬b.2.2.2.2.2.1=true->(b.1=x1.1->(b.2.1=x1.2.1->(b.2.2.1=x1.2.2.1->∃(b1:Nat),x=some b1/\∃(x2:D4),G b1=some (Ob.st Ei x2)/\∃(b2:Nat),x2.m=some b2/\{m:=x2.m:D4}=x2/\∃(x3:Aw),G b2=some (Ob.st CV x3)/\{store:=x3.store,BG:=x3.BG,Ak:=x3.Ak,Au:=x3.Au,waits:=x3.waits,calls:=x3.calls:Aw}=x3/\Wp Y0 FL E1 (x3.BG,1,x1.1,x1.2.1,x1.2.2.1,()) G (λ(b3:Int×Bool×Unit)_ G=>(b3.2.1=true->Q (A8 b3.1 (not (decide (x1.2.2.2.1=true)==decide (b.2.2.2.1=true))),()) () G)/\(¬b3.2.1=true->Wp Y0 IJ GN (x,[x1.1,x1.2.1,x1.2.2.1],()) G (λ(b4:Int×Unit)_ G=>Wp Y0 Cv BW (x,x1.1,b4.1,()) G (λ(b5:Int×Int×Unit)_ G=>Wp Y0 Cv BW (x,x1.2.1,b4.1,()) G (λ(b6:Int×Int×Unit)_ G=>Wp Y0 Cv BW (x,x1.2.2.1,b4.1,()) G (λ(b7:Int×Int×Unit)_ G=>Wp Y0 CG Cy (x,b5.1,b6.1,b7.1,()) G (λ(b8:Int×Unit)_ G=>Wp Y0 CG Cy (x,b5.2.1,b6.2.1,b7.2.1,()) G (λ(b9:Int×Unit)_ G=>Wp Y0 EE DX (x,b4.1,b8.1,b9.1,()) G (λ(b10:Int×Unit)_ G=>∃(x:D4),G b1=some (Ob.st Ei x)/\∃(b11:Nat),x.m=some b11/\{m:=x.m:D4}=x/\∃(x:Aw),G b11=some (Ob.st CV x)/\{store:=x.store,BG:=x.BG,Ak:=x.Ak,Au:=x.Au,waits:=x.waits,calls:=x.calls:Aw}=x/\Wp Y0 FJ E0 (x.BG,1,x1.1,x1.2.1,x1.2.2.1,b10.1,()) G (λ(b12 io:Unit)(G:HY)=>Q (A8 b10.1 (not (decide (x1.2.2.2.1=true)==decide (b.2.2.2.1=true))),()) () G) X) X) X) X) X) X) X) X)) X)/\(¬b.2.2.1=x1.2.2.1->x1.2.2.2.2.1+1<=9223372036854775807/\∃m,m<n/\V m (b.1,b.2.1,b.2.2.1,not (decide (x1.2.2.2.1=true)==decide (b.2.2.2.1=true)),x1.2.2.2.2.1+1,()) G))/\(¬b.2.1=x1.2.1->x1.2.2.2.2.1+1<=9223372036854775807/\∃m,m<n/\V m (b.1,b.2.1,b.2.2.1,not (decide (x1.2.2.2.1=true)==decide (b.2.2.2.1=true)),x1.2.2.2.2.1+1,()) G))/\(¬b.1=x1.1->x1.2.2.2.2.1+1<=9223372036854775807/\∃m,m<n/\V m (b.1,b.2.1,b.2.2.1,not (decide (x1.2.2.2.1=true)==decide (b.2.2.2.1=true)),x1.2.2.2.2.1+1,()) G))) X)/\(¬x1.2.2.2.2.1<3->∃(b:Nat),x=some b/\∃(x2:D4),H b=some (Ob.st Ei x2)/\∃(b1:Nat),x2.m=some b1/\{m:=x2.m:D4}=x2/\∃(x3:Aw),H b1=some (Ob.st CV x3)/\{store:=x3.store,BG:=x3.BG,Ak:=x3.Ak,Au:=x3.Au,waits:=x3.waits,calls:=x3.calls:Aw}=x3/\Wp Y0 FL E1 (x3.BG,1,x1.1,x1.2.1,x1.2.2.1,()) H (λ(b2:Int×Bool×Unit)_ G=>(b2.2.1=true->Q (A8 b2.1 x1.2.2.2.1,()) () G)/\(¬b2.2.1=true->Wp Y0 IJ GN (x,[x1.1,x1.2.1,x1.2.2.1],()) G (λ(b3:Int×Unit)_ G=>Wp Y0 Cv BW (x,x1.1,b3.1,()) G (λ(b4:Int×Int×Unit)_ G=>Wp Y0 Cv BW (x,x1.2.1,b3.1,()) G (λ(b5:Int×Int×Unit)_ G=>Wp Y0 Cv BW (x,x1.2.2.1,b3.1,()) G (λ(b6:Int×Int×Unit)_ G=>Wp Y0 CG Cy (x,b4.1,b5.1,b6.1,()) G (λ(b7:Int×Unit)_ G=>Wp Y0 CG Cy (x,b4.2.1,b5.2.1,b6.2.1,()) G (λ(b8:Int×Unit)_ G=>Wp Y0 EE DX (x,b3.1,b7.1,b8.1,()) G (λ(b9:Int×Unit)_ G=>∃(x:D4),G b=some (Ob.st Ei x)/\∃(b:Nat),x.m=some b/\{m:=x.m:D4}=x/\∃(x:Aw),G b=some (Ob.st CV x)/\{store:=x.store,BG:=x.BG,Ak:=x.Ak,Au:=x.Au,waits:=x.waits,calls:=x.calls:Aw}=x/\Wp Y0 FJ E0 (x.BG,1,x1.1,x1.2.1,x1.2.2.1,b9.1,()) G (λ(b io:Unit)(G:HY)=>Q (A8 b9.1 x1.2.2.2.1,()) () G) X) X) X) X) X) X) X) X)) X)
theorem ZH x f g h H Q X(h_:S9 x f g h H Q X):Wp Y0 CG Cy (x,f,g,h,()) H Q X:=wF Tryz.f148 {lp:=[(3,⟨[(1,.one (.dat I6)),(2,.one (.dat I6)),(3,.one (.dat I6)),(9,.one (.dat .bool)),(27,.nat)],[0],true⟩)]} h_
def Qn(m:Option Nat)(op:Option Nat×Unit->HY->(Unit->HP)->PX->Prop)(H:HY)(Q:Int×Unit->UU)(X:PX):=(m=none->Q (5,()) () H)/\(¬m=none->Wp Y0 K7 I7 (m,op,()) H (λ(b:Int×Unit)_ G=>Q (b.1,()) () G) X)
theorem Xq m op H Q X(h_:Qn m op H Q X):Wp Y0 Qg LQ (m,op,()) H Q X:=wF Tryz.f149 {} h_
def Qi(m:Option Nat)(f:Int)(H:HY)(Q:Int×Unit->UU)(X:PX):=∃(b:Nat),m=some b/\∃(x:Aw),H b=some (Ob.st CV x)/\{store:=x.store,BG:=x.BG,Ak:=x.Ak,Au:=x.Au,waits:=x.waits,calls:=x.calls:Aw}=x/\Wp Y0 HU F7 (x.store,f,()) H (λ(b1:Int×Unit)_ G=>∃(x:Aw),G b=some (Ob.st CV x)/\(Ag .i64 x.Au->Ag .i64 (x.Au+1)/\Q (x.Au,()) () (Ac G b (Ob.st CV {x with Ak:=BL x.Ak x.Au f,Au:=x.Au+1})))) X
theorem Xl m f H Q X(h_:Qi m f H Q X):Wp Y0 J8 Hn (m,f,()) H Q X:=wF Tryz.f168 {} h_
def S8(m:Option Nat)(op:Option Nat×Unit->HY->(Unit->HP)->PX->Prop)(H:HY)(Q:Int×Unit->UU)(X:PX):=∃(V:Nat->Bool×Unit->HP),(∃(n:Nat),V n (false,()) H)/\∀n x H,V n x H->Wp Y0 Sr I5 (m,op,()) H (λ(b:Fb×Bool×Unit)_ G=>(b.2.1=true->Q (0,()) () G)/\(¬b.2.1=true->(b.1.event=true->Wp Y0 Kb HA (m,{El:=b.1.ev.El,Kind:=b.1.ev.Kind,Level:=b.1.ev.Level:Bz},()) G (λ(b io:Unit)(G:HY)=>∃m,m<n/\V m (false,()) G) X)/\(¬b.1.event=true->(b.1.err=7->(¬x.1=true->Wp Y0 Jo GM (m,()) G (λ(b:Int×Unit)_ G=>∃m,m<n/\V m (true,()) G) X)/\(¬¬x.1=true->Q (b.1.err,()) () G))/\(¬b.1.err=7->Q (b.1.err,()) () G)))) X
theorem ZE m op H Q X(h_:S8 m op H Q X):Wp Y0 K7 I7 (m,op,()) H Q X:=wF Tryz.f187 {lp:=[(2,⟨[(5,.one (.dat .bool))],[0,1],true⟩)]} h_
def Qq(x:Option Nat)(p1:Option Nat×Unit->HY->(Int×Unit->HP)->PX->Prop)(p2:Option Nat)(H:HY)(Q:Unit->UU)(X:PX):=p1 (x,()) H (λ(b:Int×Unit)(G:HY)=>∃(b1:Nat),p2=some b1/\∃(x:Int),G b1=some (Ob.st Ch x)/\Q () () (Ac G b1 (Ob.st Ch b.1))) X
theorem Xt x p1 p2 H Q X(h_:Qq x p1 p2 H Q X):Wp Y0 Qh LR (x,p1,p2,()) H Q X:=wF Tryz.f188 {} h_
def ZG(x:Option Nat)(l:List Int)(H:HY)(Q:Int×Unit->UU)(X:PX):=l.length<=9223372036854775807->∃(V:Nat->Int×Int×Nat×Unit->HP),(∃(n:Nat),V n (-1,0,0,()) H)/\∀n x1 H,V n x1 H->(x1.2.2.1<l.length->x1.2.2.1<=9223372036854775807->∃(h:x1.2.2.1<l.length),∃(b:Nat),x=some b/\∃(x2:D4),H b=some (Ob.st Ei x2)/\∃(b:Nat),x2.m=some b/\{m:=x2.m:D4}=x2/\∃(x3:Aw),H b=some (Ob.st CV x3)/\{store:=x3.store,BG:=x3.BG,Ak:=x3.Ak,Au:=x3.Au,waits:=x3.waits,calls:=x3.calls:Aw}=x3/\Wp Y0 Dy CP (x3.store,l[x1.2.2.1],()) H (λ(b:Int×Int×Int×Bool×Unit)_ G=>(b.2.2.2.1=true->(x1.1<0->Wp Y0 Db CD (x,b.1,()) G (λ(b1:Int×Unit)_ G=>x1.2.2.1+1<=9223372036854775807/\∃m,m<n/\V m (b.1,b1.1,x1.2.2.1+1,()) G) X)/\(¬x1.1<0->Wp Y0 Db CD (x,b.1,()) G (λ(b1:Int×Unit)_ G=>(b1.1<x1.2.1->Wp Y0 Db CD (x,b.1,()) G (λ(b2:Int×Unit)_ G=>x1.2.2.1+1<=9223372036854775807/\∃m,m<n/\V m (b.1,b2.1,x1.2.2.1+1,()) G) X)/\(¬b1.1<x1.2.1->x1.2.2.1+1<=9223372036854775807/\∃m,m<n/\V m (x1.1,x1.2.1,x1.2.2.1+1,()) G)) X))/\(¬b.2.2.2.1=true->x1.2.2.1+1<=9223372036854775807/\∃m,m<n/\V m (x1.1,x1.2.1,x1.2.2.1+1,()) G)) X)/\(¬x1.2.2.1<l.length->Q (x1.1,()) () H)
theorem ZF x l H Q X(h_:ZG x l H Q X):Wp Y0 IJ GN (x,l,()) H Q X:=wF Tryz.f198 {lp:=[(3,⟨[(5,.one (.dat I6)),(6,.one (.dat I6)),(15,.nat)],[0,13,14],true⟩)]} h_
def Wm(x:Option Nat)(f v:Int)(H:HY)(Q:Int×Int×Unit->UU)(X:PX):=∃(b:Nat),x=some b/\∃(x:D4),H b=some (Ob.st Ei x)/\∃(b:Nat),x.m=some b/\{m:=x.m:D4}=x/\∃(x:Aw),H b=some (Ob.st CV x)/\{store:=x.store,BG:=x.BG,Ak:=x.Ak,Au:=x.Au,waits:=x.waits,calls:=x.calls:Aw}=x/\Wp Y0 Dy CP (x.store,f,()) H (λ(b:Int×Int×Int×Bool×Unit)_ G=>(¬b.2.2.2.1=true->Q (f,f,()) () G)/\(¬¬b.2.2.2.1=true->(¬b.1=v->Q (f,f,()) () G)/\(¬¬b.1=v->Q (b.2.1,b.2.2.1,()) () G))) X
theorem Wl x f v H Q X(h_:Wm x f v H Q X):Wp Y0 Cv BW (x,f,v,()) H Q X:=wF Tryz.f199 {} h_
def NB(m:Option Nat)(ev:Bz)(H:HY)(Q:Unit->UU)(X:PX):=∃(b:Nat),m=some b/\∃(x:Aw),H b=some (Ob.st CV x)/\{store:=x.store,BG:=x.BG,Ak:=x.Ak,Au:=x.Au,waits:=x.waits,calls:=x.calls:Aw}=x/\Wp Y0 ED DF (x.BG,()) H (λ(b1 io:Unit)(G:HY)=>(ev.Kind=1->∃(x:Aw),G b=some (Ob.st CV x)/\{store:=x.store,BG:=x.BG,Ak:=x.Ak,Au:=x.Au,waits:=x.waits,calls:=x.calls:Aw}=x/\Wp Y0 CB Cb (x.store,()) G (λ(b:Int×Unit)_ G=>Q () () G) X)/\(¬ev.Kind=1->(ev.Kind=2->∃(x:Aw),G b=some (Ob.st CV x)/\{store:=x.store,BG:=x.BG,Ak:=x.Ak,Au:=x.Au,waits:=x.waits,calls:=x.calls:Aw}=x/\Wp Y0 Dw CH (x.store,ev.Level,()) G (λ(b:Int×Unit)_ G=>Q () () G) X)/\(¬ev.Kind=2->∃(x:Aw),G b=some (Ob.st CV x)/\{store:=x.store,BG:=x.BG,Ak:=x.Ak,Au:=x.Au,waits:=x.waits,calls:=x.calls:Aw}=x/\Wp Y0 DL Dd (x.store,()) G (λ(b2:List Int×Unit)_ G=>Wp Y0 OH L1 (b2.1,()) G (λ(b3:List Int×Unit)_ G=>Wp Y0 K4 Iz (b2.1,b3.1,()) G (λ(b4:List Int×Int×Unit)_ G=>b4.1.length<=9223372036854775807->∃(V:Nat->List Int×Nat×Unit->HP),(∃(n:Nat),V n (b4.1,0,()) G)/\∀n x H,V n x H->(x.2.1<b4.1.length->x.2.1<=9223372036854775807->∃(h:x.2.1<x.1.length),∃(h:x.2.1<x.1.length),∃(x1:Aw),H b=some (Ob.st CV x1)/\{store:=x1.store,BG:=x1.BG,Ak:=x1.Ak,Au:=x1.Au,waits:=x1.waits,calls:=x1.calls:Aw}=x1/\Wp Y0 Dw CH (x1.store,x.1[x.2.1],()) H (λ(b:Int×Unit)_ G=>x.2.1+1<=9223372036854775807/\∃m,m<n/\V m (x.1,x.2.1+1,()) G) X)/\(¬x.2.1<b4.1.length->Q () () H)) X) X) X))) X
theorem Uz m ev H Q X(h_:NB m ev H Q X):Wp Y0 Kb HA (m,ev,()) H Q X:=wF Tryz.f228 {lp:=[(6,⟨[(28,.one (.own I6)),(30,.nat)],[0,28,29],true⟩)],im:=[3]} h_
def Qk(m:Option Nat)(level:Int)(H:HY)(Q:Int×Unit->UU)(X:PX):=(m=none->Q (5,()) () H)/\(¬m=none->∃(b:Nat),m=some b/\∃(x:Aw),H b=some (Ob.st CV x)/\{store:=x.store,BG:=x.BG,Ak:=x.Ak,Au:=x.Au,waits:=x.waits,calls:=x.calls:Aw}=x/\Wp Y0 ED DF (x.BG,()) H (λ(b1 io:Unit)(G:HY)=>∃(x:Aw),G b=some (Ob.st CV x)/\{store:=x.store,BG:=x.BG,Ak:=x.Ak,Au:=x.Au,waits:=x.waits,calls:=x.calls:Aw}=x/\Wp Y0 Dw CH (x.store,level,()) G (λ(b:Int×Unit)_ G=>Q (b.1,()) () G) X) X)
theorem Xn m level H Q X(h_:Qk m level H Q X):Wp Y0 Hx FO (m,level,()) H Q X:=wF Tryz.f88 {} h_
def MN(m:Option Nat)(H:HY)(Q:Int×Unit->UU)(X:PX):=(m=none->Q (0,()) () H)/\(¬m=none->∃(b:Nat),m=some b/\∃(x:Aw),H b=some (Ob.st CV x)/\{store:=x.store,BG:=x.BG,Ak:=x.Ak,Au:=x.Au,waits:=x.waits,calls:=x.calls:Aw}=x/\Wp Y0 ED DF (x.BG,()) H (λ(b1 io:Unit)(G:HY)=>∃(x:Aw),G b=some (Ob.st CV x)/\{store:=x.store,BG:=x.BG,Ak:=x.Ak,Au:=x.Au,waits:=x.waits,calls:=x.calls:Aw}=x/\Wp Y0 CB Cb (x.store,()) G (λ(b:Int×Unit)_ G=>Q (b.1,()) () G) X) X)
theorem T4 m H Q X(h_:MN m H Q X):Wp Y0 Jo GM (m,()) H Q X:=wF Tryz.f229 {} h_
def Qo(m:Option Nat)(f:Int)(l:List Bool)(H:HY)(Q:Bool×Int×Unit->UU)(X:PX):=(m=none->Q (false,5,()) () H)/\(¬m=none->∃(b:Nat),m=some b/\∃(x:Aw),H b=some (Ob.st CV x)/\(¬(Ae x.Ak f).isSome=true->{store:=x.store,BG:=x.BG,Ak:=x.Ak,Au:=x.Au,waits:=x.waits,calls:=x.calls:Aw}=x/\Q (false,8,()) () H)/\(¬¬(Ae x.Ak f).isSome=true->{store:=x.store,BG:=x.BG,Ak:=x.Ak,Au:=x.Au,waits:=x.waits,calls:=x.calls:Aw}=x/\∃(V:Nat->Int×Unit->HP),(∃(n:Nat),V n ((Ae x.Ak f).getD 0,()) H)/\∀n x H,V n x H->(¬decide (Ax x.1=0)=true->∃(x1:Aw),H b=some (Ob.st CV x1)/\{store:=x1.store,BG:=x1.BG,Ak:=x1.Ak,Au:=x1.Au,waits:=x1.waits,calls:=x1.calls:Aw}=x1/\Wp Y0 Dy CP (x1.store,x.1,()) H (λ(b:Int×Int×Int×Bool×Unit)_ G=>l.length<=9223372036854775807->(b.1<(↑l.length:Int)->Ag .i64 b.1->(Ag .i64 b.1->(0:Int)<=b.1)/\∃(h:b.1.toNat<l.length),(l[b.1.toNat]=true->∃m,m<n/\V m (b.2.2.1,()) G)/\(¬l[b.1.toNat]=true->∃m,m<n/\V m (b.2.1,()) G))/\(¬b.1<(↑l.length:Int)->∃m,m<n/\V m (b.2.1,()) G)) X)/\(¬¬decide (Ax x.1=0)=true->Q (decide (x.1=0),0,()) () H)))
theorem Xr m f l H Q X(h_:Qo m f l H Q X):Wp Y0 Mf Jx (m,f,l,()) H Q X:=wF Tryz.f52 {lp:=[(6,⟨[(8,.one (.dat I6))],[0,2],true⟩)]} h_
end
section
variable {H H':HY} {b:Nat} {S:B4}
theorem BX.BA{c m:Nat}{x:Y0.O m}(h:BX H b S)(hc:H c=some (.st m x))(h1:m≠AA)(h2:m≠CF)(h3:m≠CR)(h4:m≠BC)(f:NF b S H H'):H' c=some (.st m x):=by
 rw[f c (Bj hc h.st h1) (Bj hc h.lv h2) (Bj hc h.po h3) (λhm=>?_)]
 .exact hc
 .obtain⟨v,hv,e⟩:=List.mem_iff_getElem.1 hm;exact Bj hc (h.ta v hv) h4 e.symm
theorem BX.other{c m:Nat}{x:Y0.O m}{y:Ob Y0}(h:BX H b S)(hc:H c=some (.st m x))(h1:m≠AA)(h2:m≠CF)(h3:m≠CR)(h4:m≠BC):BX (Ac H c y) b S:=by
 refine⟨?_,?_,?_,h.nd,λv hv=>?_⟩
 .rw[Af _ _ (Bj hc h.st h1).symm];exact h.st
 .rw[Af _ _ (Bj hc h.lv h2).symm];exact h.lv
 .rw[Af _ _ (Bj hc h.po h3).symm];exact h.po
 .rw[Af _ _ (Bj hc (h.ta v hv) h4).symm];exact h.ta v hv
structure Mn where
 sb:Nat
 S:B4
 mb:Nat
 me:By
 hs:List (Int×Int)
 nx:Int
 ws:List Bz
 ca:Int
def Mn.ob(M:Mn):Aw:={store:=some M.sb,BG:=some M.mb,Ak:=M.hs,Au:=M.nx,waits:=M.ws,calls:=M.ca}
structure JC(H:HY)(b:Nat)(M:Mn):Prop where
 ob:H b=some (.st CV M.ob)
 st:BX H M.sb M.S
 me:H M.mb=some (.st BU M.me)
def JD(b:Nat)(M:Mn)(H H':HY):Prop:=∀c,c≠b->c≠M.mb->c≠M.sb->c≠M.S.bl->c≠M.S.bp->c∉M.S.tb->H' c=H c
variable {M:Mn}
theorem JD.refl:JD b M H H:=λ_ _ _ _ _ _ _=>rfl
structure DN(M M':Mn):Prop where
 sb:M'.sb=M.sb
 mb:M'.mb=M.mb
 bl:M'.S.bl=M.S.bl
 bp:M'.S.bp=M.S.bp
 tb:M'.S.tb=M.S.tb
theorem JD.trans{M':Mn}{H'':HY}(h:JD b M H H')(k:JD b M' H' H'')(e:DN M M'):JD b M H H'':=λc a1 a2 a3 a4 a5 a6=>by rw[k c a1 (by rw[e.mb];exact a2) (by rw[e.sb];exact a3) (by rw[e.bl];exact a4) (by rw[e.bp];exact a5) (by rw[e.tb];exact a6),h c a1 a2 a3 a4 a5 a6]
theorem NF.frm(f:NF M.sb M.S H H'):JD b M H H':=λc _ _ a3 a4 a5 a6=>f c a3 a4 a5 a6
theorem JD.set{o:Ob Y0}:JD b M H (Ac H b o):=λc a1 _ _ _ _ _=>Af _ _ a1
def JQ:List (Int×Int)->Int->Int
 | [],_=>0
 |p::m,i=>B.dl p.2 i+JQ m i
theorem Pu{i:Int}:∀{m:List (Int×Int)},0<=JQ m i/\JQ m i<=m.length
 | []=>by simp [JQ]
 |p::m=>by have:=Pu (i:=i) (m:=m);have:=@B.G8 p.2 i;simp only[JQ,List.length_cons];omega
theorem Se{k v i:Int}:∀{m:List (Int×Int)},Ae m k=none->JQ (BL m k v) i=JQ m i+B.dl v i/\(BL m k v).length=m.length+1
 | [],_=>by simp [JQ,BL]
 |p::m,h=>by
  unfold Ae at h;split at h
  .cases h
  .rename_i hp;have:=Se (v:=v) (i:=i) h;unfold BL;rw[if_neg hp];simp only[JQ,List.length_cons];omega
theorem Sf{k v i:Int}:∀{m:List (Int×Int)},Ae m k=some v->JQ (Df m k) i=JQ m i-B.dl v i/\(Df m k).length+1=m.length
 |p::m,h=>by
  unfold Ae at h;unfold Df;split at h
  .rename_i hp;rw[if_pos hp];cases h;refine⟨?_,by simp⟩;simp only[JQ];omega
  .rename_i hp;have:=Sf (i:=i) h;rw[if_neg hp];simp only[JQ,List.length_cons];omega
structure MI(M:Mn):Prop where
 si:SI M.S
 nd:Pq M.hs
 ok:∀h e,Ae M.hs h=some e->B.Ok (A6 M.S.po) e/\0<=h/\h<M.nx
 k0:Ae M.hs 0=some 1
 k1:Ae M.hs 1=some 0
 nx:2<=M.nx
 rf:∀i,i≠0->Fl M.S.po i=JQ M.hs i
 ln:M.hs.length<=M.nx
theorem MI.hb(h:MI M)(hn:M.nx<576460752303423488)(i:Int):Fl M.S.po i<1152921504606846976:=by
 by_cases e:i=0
 .rw[e,Af7 h.si.sc.po];omega
 .rw[h.rf i e];have:=@Pu i M.hs;have:=h.ln;omega
def Mn.A9(M:Mn)(h:Int):Option B.Fn:=(Ae M.hs h).map (B.den (A6 M.S.po))
theorem MI.Amt(h:MI M):M.A9 0=some (λ_=>false):=by unfold Mn.A9;rw[h.k0];simp [B.FM]
theorem MI.As9(h:MI M):M.A9 1=some (λ_=>true):=by unfold Mn.A9;rw[h.k1];simp [B.JA]
theorem Mn.Fm{h:Int}{F:B.Fn}(k:M.A9 h=some F):∃e,Ae M.hs h=some e/\B.den (A6 M.S.po) e=F:=by
 unfold Mn.A9 at k;cases he:Ae M.hs h with
 |none=>rw[he]at k;cases k
 |some e=>rw[he]at k;cases k;exact⟨e,rfl,rfl⟩
theorem Mn.Pr{h:Int}:M.A9 h=none↔Ae M.hs h=none:=by unfold Mn.A9;cases Ae M.hs h<;>simp
structure MHs(M M':Mn):Prop where
 bs:DN M M'
 A6:A6 M'.S.po=A6 M.S.po
 lv:M'.S.lv=M.S.lv
 room:M'.S.po.room=M.S.po.room
 many:M'.S.po.many=M.S.po.many
 me:M'.me=M.me
 ws:M'.ws=M.ws
 ca:M'.ca=M.ca
theorem MHs.refl:MHs M M:=⟨⟨rfl,rfl,rfl,rfl,rfl⟩,rfl,rfl,rfl,rfl,rfl,rfl,rfl⟩
theorem MHs.trans{M' M'':Mn}(h:MHs M M')(k:MHs M' M''):MHs M M'':=⟨⟨k.bs.sb.trans h.bs.sb,k.bs.mb.trans h.bs.mb,k.bs.bl.trans h.bs.bl,k.bs.bp.trans h.bs.bp,k.bs.tb.trans h.bs.tb⟩,k.A6.trans h.A6,k.lv.trans h.lv,k.room.trans h.room,k.many.trans h.many,k.me.trans h.me,k.ws.trans h.ws,k.ca.trans h.ca⟩
def Mn.wh(M:Mn)(S:B4)(hs:List (Int×Int))(nx:Int):Mn:={M with S:=S,hs:=hs,nx:=nx}
theorem JC.Ays(h:JC H b M)(hS:BX H' M.sb S)(f:NF M.sb M.S H H')(hs:List (Int×Int))(nx:Int):H' b=some (.st CV M.ob)/\JC (Ac H' b (.st CV (M.wh S hs nx).ob)) b (M.wh S hs nx)/\JD b M H (Ac H' b (.st CV (M.wh S hs nx).ob)):=by
 have hb:=h.st.BA h.ob (by decide) (by decide) (by decide) (by decide) f;have hm:=h.st.BA h.me (by decide) (by decide) (by decide) (by decide) f;refine⟨hb,⟨Ai _ _ _,hS.other hb (by decide) (by decide) (by decide) (by decide),?_⟩,λc a1 a2 a3 a4 a5 a6=>?_⟩
 .show Ac H' b _ M.mb=some (.st BU M.me);rw[Af _ _ (Bj h.me h.ob (by decide))];exact hm
 .rw[Af _ _ a1];exact f c a3 a4 a5 a6
variable {X:PX}
theorem TT{f:Int}{Q:Int×Unit->UU}(hM:JC H b M)(hI:MI M)(hn:M.nx<576460752303423488)(hf:B.Ok (A6 M.S.po) f)(h:∀M' H',JC H' b M'->MI M'->MHs M M'->M'.nx=M.nx+1->M'.hs.length=M.hs.length+1->(∀g,M'.A9 g=if g=M.nx then some (B.den (A6 M.S.po) f) else M.A9 g)->JD b M H H'->Q (M.nx,()) () H'):Wp Y0 J8 Hn (some b,f,()) H Q X:=by
 apply Xl;unfold Qi;refine⟨b,rfl,M.ob,hM.ob,rfl,Xc hM.st hI.si (hI.hb hn) (λh=>absurd hf h) λS' H' _ hS' hI' hr fr=>?_⟩;obtain⟨q1,q2,q3⟩:=hM.Ays hS' fr (BL M.hs M.nx f) (M.nx+1);have h2:=hI.nx;have hnew:Ae M.hs M.nx=none:=by
  cases e:Ae M.hs M.nx with
  |none=>rfl
  |some x=>have:=(hI.ok _ _ e).2.2;omega
 refine⟨M.ob,q1,λ_=>⟨AG.2 (by show _<=M.nx+1/\M.nx+1<=_;omega),h _ _ q2 ⟨hI',?_,?_,?_,?_,?_,?_,?_⟩ ⟨⟨rfl,rfl,hr.bl,hr.bp,hr.tb⟩,hr.A6,hr.lv,hr.room,hr.many,rfl,rfl,rfl⟩ rfl (Se (i:=0) hnew).2 (λg=>?_) q3⟩⟩
 .exact J5 hI.nd _ _
 .intro g e he;have he':Ae (BL M.hs M.nx f) g=some e:=he;rw[C9]at he';show B.Ok (A6 S'.po) e/\0<=g/\g<M.nx+1;rw[hr.A6];split at he'
  .rename_i eg;cases he';exact⟨hf,by omega,by omega⟩
  .have:=hI.ok g e he';exact⟨this.1,this.2.1,by omega⟩
 .show Ae (BL M.hs M.nx f) 0=_;rw[C9,if_neg (by omega)];exact hI.k0
 .show Ae (BL M.hs M.nx f) 1=_;rw[C9,if_neg (by omega)];exact hI.k1
 .show 2<=M.nx+1;omega
 .intro i hi;show Fl S'.po i=JQ (BL M.hs M.nx f) i;rw[hr.rf i hi,(Se hnew).1,hI.rf i hi]
 .show ((BL M.hs M.nx f).length:Int)<=M.nx+1;have:=(Se (i:=0) (v:=f) hnew).2;have:=hI.ln;omega
 .show (Ae (BL M.hs M.nx f) g).map (B.den (A6 S'.po))=_;rw[C9,hr.A6];by_cases e:g=M.nx
  .rw[if_pos e,if_pos e];rfl
  .rw[if_neg e,if_neg e];rfl
theorem Abw{g:Int}{Q:Int×Int×Unit->UU}(hM:JC H b M)(hI:MI M)(hn:M.nx<576460752303423488)(h8:M.A9 g=none->Q (0,8,()) () H)(h:∀F M' H',M.A9 g=some F->JC H' b M'->MI M'->MHs M M'->M'.nx=M.nx+1->M'.hs.length=M.hs.length+1->(∀k,M'.A9 k=if k=M.nx then some F else M.A9 k)->JD b M H H'->Q (M.nx,0,()) () H'):Wp Y0 FR EH (some b,g,()) H Q X:=by
 apply Xu;unfold Qr;refine⟨λh=>absurd h (by simp),λ_=>⟨b,rfl,M.ob,hM.ob,λhs=>⟨rfl,h8 (Mn.Pr.2 ?_)⟩,λhs=>⟨rfl,?_⟩⟩⟩
 .have hs':¬(Ae M.hs g).isSome=true:=hs;simpa using hs'
 .have hs':¬¬(Ae M.hs g).isSome=true:=hs;obtain⟨e,he⟩:=Option.isSome_iff_exists.1 (Classical.not_not.1 hs');have hx:(Ae M.ob.Ak g).getD 0=e:=by show (Ae M.hs g).getD 0=e;rw[he];rfl
  rw[hx];have hF:M.A9 g=some (B.den (A6 M.S.po) e):=by unfold Mn.A9;rw[he];rfl
  exact TT hM hI hn (hI.ok _ _ he).1 λM' H' a1 a2 a3 a4 a5 a6 a7=>h _ M' H' hF a1 a2 a3 a4 a5 a6 a7
theorem Abs{f g:Int}{Q:Bool×Int×Unit->UU}(hM:JC H b M)(hI:MI M)(h8:M.A9 f=none∨M.A9 g=none->Q (false,8,()) () H)(h:∀F G,M.A9 f=some F->M.A9 g=some G->∀t:Bool,(t=true↔F=G)->Q (t,0,()) () H):Wp Y0 CW CC (some b,f,g,()) H Q X:=by
 apply Xo;unfold Ql;refine⟨λh=>absurd h (by simp),λ_=>⟨b,rfl,M.ob,hM.ob,λhs=>⟨rfl,h8 (.inl (Mn.Pr.2 ?_))⟩,λhs=>⟨λht=>⟨rfl,h8 (.inr (Mn.Pr.2 ?_))⟩,λht=>⟨rfl,?_⟩⟩⟩⟩
 .have hs':¬(Ae M.hs f).isSome=true:=hs;simpa using hs'
 .have hs':¬(Ae M.hs g).isSome=true:=ht;simpa using hs'
 .have hs':¬¬(Ae M.hs f).isSome=true:=hs;have ht':¬¬(Ae M.hs g).isSome=true:=ht;obtain⟨e,he⟩:=Option.isSome_iff_exists.1 (Classical.not_not.1 hs');obtain⟨d,hd⟩:=Option.isSome_iff_exists.1 (Classical.not_not.1 ht');refine h _ _ (by unfold Mn.A9;rw[he];rfl) (by unfold Mn.A9;rw[hd];rfl) _ ?_;have h1:(Ae M.ob.Ak f).getD 0=e:=by show (Ae M.hs f).getD 0=e;rw[he];rfl
  have h2:(Ae M.ob.Ak g).getD 0=d:=by show (Ae M.hs g).getD 0=d;rw[hd];rfl
  rw[h1,h2,decide_eq_true_iff];exact hI.si.BP.eq_iff B4.JO (hI.ok _ _ he).1 (hI.ok _ _ hd).1
end
section
def ML:List Int->List (Int×Int)->List (Int×Int)×Int
 | [],hs=>(hs,0)
 |g::l,hs=>if (Ae hs g).isSome=true then ML l (if 1<g then Df hs g else hs) else (hs,8)
theorem Abv{b:Nat}{M:Mn}{l:List Int}{H:HY}{X:PX}{Q:Int×Unit->UU}(hM:JC H b M)(hI:MI M)(hn:M.nx<576460752303423488)(h:∀M' H',JC H' b M'->MI M'->MHs M M'->M'.nx=M.nx->M'.hs=(ML l M.hs).1->JD b M H H'->Q ((ML l M.hs).2,()) () H'):Wp Y0 EK DW (some b,l,()) H Q X:=by
 apply Xs;unfold Qp;refine⟨λh=>absurd h (by simp),λ_ hlen=>⟨λn x H'=>n=l.length-x.1/\x.1<=l.length/\∃M',JC H' b M'/\MI M'/\MHs M M'/\M'.nx=M.nx/\ML (l.drop x.1) M'.hs=ML l M.hs/\JD b M H H',⟨_,rfl,Nat.zero_le _,M,hM,hI,MHs.refl,rfl,rfl,JD.refl⟩,?_⟩⟩;rintro n ⟨k,_⟩ H' ⟨hnk,hk,M',hM',hI',hh,hnx,hd,fr⟩;refine⟨λhkl _=>?_,λhkl=>?_⟩
 .have hkl':k<l.length:=hkl;refine⟨hkl,b,rfl,M'.ob,hM'.ob,?_⟩;have hcons:l.drop k=l[k]::l.drop (k+1):=List.drop_eq_getElem_cons hkl';rw[hcons,ML]at hd;refine⟨λhs=>⟨rfl,?_⟩,λhs=>?_⟩
  .have hs':¬(Ae M'.hs l[k]).isSome=true:=hs;rw[if_neg hs']at hd;have:=h M' H' hM' hI' hh hnx (by rw[<-hd]) fr;rw[<-hd]at this;exact this
  .have hs':¬¬(Ae M'.hs l[k]).isSome=true:=hs;have hs2:=Classical.not_not.1 hs';rw[if_pos hs2]at hd;obtain⟨e,he⟩:=Option.isSome_iff_exists.1 hs2;refine⟨λhg=>⟨rfl,?_⟩,λhg=>?_⟩
   .have hg':1<l[k]:=hg;rw[if_pos hg']at hd;have hx:(Ae M'.ob.Ak l[k]).getD 0=e:=by show (Ae M'.hs l[k]).getD 0=e;rw[he];rfl
    have hok:=(hI'.ok _ _ he).1;obtain⟨d1,d2⟩:=λi=>(Sf (i:=i) he).1,(Sf (i:=0) he).2;have hn':M'.nx<576460752303423488:=by rw[hnx];exact hn
    have go:∀S' H2,BX H2 M'.sb S'->SI S'->ZS M'.S S' (λi=>Fl M'.S.po i-B.dl e i)->NF M'.sb M'.S H' H2->
      ∃(x_2:Aw),H2 b=some (Ob.st CV x_2)/\k+1<=9223372036854775807/\∃(m:Nat),m<n/\(m=l.length-(k+1)/\k+1<=l.length/\∃M2,JC (Ac H2 b (Ob.st CV {x_2 with Ak:=Df x_2.Ak l[k]})) b M2/\MI M2/\MHs M M2/\M2.nx=M.nx/\ML (l.drop (k+1)) M2.hs=ML l M.hs/\JD b M H (Ac H2 b (Ob.st CV {x_2 with Ak:=Df x_2.Ak l[k]}))):=by
     intro S' H2 hS' hSI hr hfr
     obtain⟨q1,q2,q3⟩:=hM'.Ays hS' hfr (Df M'.hs l[k]) M'.nx
     refine⟨M'.ob,q1,by show k+1<=_;omega,l.length-(k+1),by omega,rfl,by omega,M'.wh S' (Df M'.hs l[k]) M'.nx,q2,?_,hh.trans ⟨⟨rfl,rfl,hr.bl,hr.bp,hr.tb⟩,hr.A6,hr.lv,hr.room,hr.many,rfl,rfl,rfl⟩,hnx,hd,fr.trans q3 hh.bs⟩
     have hmg:∀j,Ae (Df M'.hs l[k]) j=if j=l[k] then none else Ae M'.hs j:=λj=>Ij hI'.nd _ _
     refine⟨hSI,RW hI'.nd _,λg e' hg2=>?_,?_,?_,hI'.nx,λi hi=>?_,?_⟩
     .have hg3:Ae (Df M'.hs l[k]) g=some e':=hg2
      rw[hmg]at hg3
      split at hg3
      .cases hg3
      .show B.Ok (A6 S'.po) e'/\_
       rw[hr.A6];exact hI'.ok g e' hg3
     .show Ae (Df M'.hs l[k]) 0=_
      rw[hmg,if_neg (by omega)];exact hI'.k0
     .show Ae (Df M'.hs l[k]) 1=_
      rw[hmg,if_neg (by omega)];exact hI'.k1
     .show Fl S'.po i=JQ (Df M'.hs l[k]) i
      rw[hr.rf i hi,d1,hI'.rf i hi]
     .show ((Df M'.hs l[k]).length:Int)<=M'.nx
      have:=hI'.ln;omega
    rw[hx];refine Xd hM'.st hI'.si (hI'.hb hn') (λh=>absurd hok h) (λ_ h0=>?_) (λ_ h0 h5=>?_) λS' H2 _ _ _ hS' hSI hr hfr=>go S' H2 hS' hSI hr hfr
    .exact go M'.S H' hM'.st hI'.si ⟨rfl,λj hj=>by rw[B.Ku (by omega)];omega,rfl,rfl,rfl,rfl,rfl,rfl,rfl⟩ NF.refl
    .exfalso;rw[hI'.rf _ h0]at h5;have h6:=d1 (e/2);rw[B.GU,h5]at h6;have:=@Pu (e/2) (Df M'.hs l[k]);omega
   .have hg':¬1<l[k]:=hg;rw[if_neg hg']at hd;exact⟨by show k+1<=_;omega,l.length-(k+1),by omega,rfl,rfl,by show k+1<=_;omega,M',hM',hI',hh,hnx,hd,fr⟩
 .have hkl':¬k<l.length:=hkl;have hd':ML (l.drop k) M'.hs=ML l M.hs:=hd;rw[List.drop_eq_nil_of_le (by omega),ML]at hd';have:=h M' H' hM' hI' hh hnx (by rw[<-hd']) fr;rw[<-hd']at this;exact this
section
variable {b:Nat} {M:Mn} {H:HY} {X:PX}
theorem RZ{yes:Bool}{Q:Int×Unit->UU}(h:Q ((if yes=true then 1 else 0),()) () H):Wp Y0 II Gu (some b,yes,()) H Q X:=by
 apply Wj;unfold OT;refine⟨λh=>absurd h (by simp),λ_=>⟨λhy=>?_,λhy=>?_⟩⟩
 .rw[if_neg hy]at h;exact h
 .rw[if_pos (Classical.not_not.1 hy)]at h;exact h
theorem L5{Q:Int×Unit->UU}(hM:JC H b M)(hI:MI M)(h:Q (M.S.n,()) () H):Wp Y0 DZ D7 (some b,()) H Q X:=by
 apply Xm;unfold Qj;refine⟨λh=>absurd h (by simp),λ_=>⟨b,rfl,M.ob,hM.ob,rfl,Xa hM.st ?_⟩⟩;have e:(M.S.lv.vars.length:Int)=M.S.n:=by rw[hI.si.vl];rfl
 show Q ((M.S.lv.vars.length:Int),()) () H;rw[e];exact h
end
end
section
structure MS(H:HY)(c b:Nat)(M:Mn):Prop where
 cx:H c=some (Ob.st (Y:=Y0) Ei (⟨some b⟩:D4))
 NT:JC H b M
def Aqf(e:Int):Lf Y0.D:={t:=Ty.u 15,x:=({err:=e,event:=false,ev:={El:=(0:Int),Kind:=(0:Int),Level:=(0:Int):Bz}}:Fb)}
theorem JC.BA{H H':HY}{b c m:Nat}{M:Mn}{x:Y0.O m}(h:JC H b M)(hc:H c=some (.st m x))(h0:m≠CV)(h5:m≠BU)(h1:m≠AA)(h2:m≠CF)(h3:m≠CR)(h4:m≠BC)(f:JD b M H H'):H' c=some (.st m x):=by
 rw[f c (Bj hc h.ob h0) (Bj hc h.me h5) (Bj hc h.st.st h1) (Bj hc h.st.lv h2) (Bj hc h.st.po h3) (λhm=>?_)]
 .exact hc
 .obtain⟨v,hv,e⟩:=List.mem_iff_getElem.1 hm;exact Bj hc (h.st.ta v hv) h4 e.symm
variable {M':Mn}
theorem Az8{M:Mn}(h:MI M)(e:Ip M.S M'.S)(g x:Int)(hx:Ae M.hs g=some x):B.den (A6 M'.S.po) x=B.den (A6 M.S.po) x:=e.den h.si (h.ok _ _ hx).1
theorem Ath{F G:Int->B.Fn}{o:Option Int}(key:∀x,o=some x->F x=G x):o.map F=o.map G:=by
 cases o with
 |none=>rfl
 |some x=>exact congrArg some (key x rfl)
theorem Az7{M:Mn}(hs:M'.hs=M.hs)(g:Int)(key:∀x,Ae M.hs g=some x->B.den (A6 M'.S.po) x=B.den (A6 M.S.po) x):M'.A9 g=M.A9 g:=by have:=Ath key;unfold Mn.A9;rw[hs];exact this
theorem MI.Az9{M:Mn}(h:MI M)(hs:M'.hs=M.hs)(hn:M'.nx=M.nx)(hS:SI M'.S)(e:Ip M.S M'.S):MI M':=by
 constructor
 .exact hS
 .rw[hs];exact h.nd
 .intro g x hg;rw[hs]at hg;have:=h.ok g x hg;exact⟨this.1.ext e.A6,this.2.1,by rw[hn];exact this.2.2⟩
 .rw[hs];exact h.k0
 .rw[hs];exact h.k1
 .rw[hn];exact h.nx
 .intro i hi;rw[hs,<-h.rf i hi];exact e.rf i
 .rw[hs,hn];exact h.ln
theorem MI.ext{M:Mn}(h:MI M)(hs:M'.hs=M.hs)(hn:M'.nx=M.nx)(hS:SI M'.S)(e:Ip M.S M'.S):MI M'/\∀g,M'.A9 g=M.A9 g:=⟨h.Az9 hs hn hS e,λg=>Az7 hs g (Az8 h e g)⟩
section
variable {c b:Nat} {M:Mn} {H:HY} {X:PX} {f v:Int}
variable {Q:Int×Unit->UU}
theorem G9(hC:MS H c b M)(h:Q (Dh M.S.lv v,()) () H):Wp Y0 Db CD (some c,v,()) H Q X:=by refine Wn _ _ _ _ _ ?_;exact⟨c,rfl,⟨some b⟩,hC.cx,b,rfl,rfl,M.ob,hC.NT.ob,rfl,Gr hC.NT.st h⟩
theorem Ae2{g:Int}(hC:MS H c b M)(h0:Ae M.hs g=none->X 231 (Aqf 8) H)(h:∀e,Ae M.hs g=some e->Q (e,()) () H):Wp Y0 FU EI (some c,g,()) H Q X:=by
 refine Xv _ _ _ _ _ ?_;refine⟨c,rfl,⟨some b⟩,hC.cx,b,rfl,rfl,M.ob,hC.NT.ob,λhs=>⟨rfl,h0 ?_⟩,λhs=>⟨rfl,?_⟩⟩
 .have hs':¬(Ae M.hs g).isSome=true:=hs;simpa using hs'
 .have hs':¬¬(Ae M.hs g).isSome=true:=hs;obtain⟨e,he⟩:=Option.isSome_iff_exists.1 (Classical.not_not.1 hs');have hx:(Ae M.ob.Ak g).getD 0=e:=by show (Ae M.hs g).getD 0=e;rw[he];rfl
  rw[hx];exact h e he
theorem OU{Q:Int×Int×Unit->UU}(hC:MS H c b M)(hI:SI M.S)(hf:B.Ok (A6 M.S.po) f)(h:Q ((B.sp (A6 M.S.po) v f).1,(B.sp (A6 M.S.po) v f).2,()) () H):Wp Y0 Cv BW (some c,f,v,()) H Q X:=by
 refine Wl _ _ _ _ _ _ ?_;have hP:=hI.sc.po;refine⟨c,rfl,⟨some b⟩,hC.cx,b,rfl,rfl,M.ob,hC.NT.ob,rfl,Ly hC.NT.st hP hf (λh0=>⟨λ_=>?_,λh=>absurd (by simp) h⟩) λd h0 hd=>⟨λh=>absurd rfl h,λ_=>⟨λhv=>?_,λhv=>?_⟩⟩⟩
 .have:B.sp (A6 M.S.po) v f=(f,f):=by unfold B.sp;rw[h0,Asu hP]
  rw[this]at h;exact h
 .have:B.sp (A6 M.S.po) v f=(f,f):=by unfold B.sp;rw[hd];exact if_neg hv
  rw[this]at h;exact h
 .have:B.sp (A6 M.S.po) v f=(B.fl d.lo f,B.fl d.hi f):=by unfold B.sp;rw[hd];exact if_pos (by simpa using hv)
  rw[this]at h;exact h
def Aot(S:B4)(l:List Int)(k:Nat)(v w:Int):Prop:=(v=-1/\∀j(_:j<l.length),j<k->l[j]/2=0)∨(0<=v/\v<S.n/\w=Dh S.lv v/\(∀j(_:j<l.length),j<k->Dh S.lv v<=B.el S.n (Dh S.lv) (A6 S.po) l[j])/\∃j,∃(_:j<l.length),j<k/\B.el S.n (Dh S.lv) (A6 S.po) l[j]=Dh S.lv v)
theorem Ajk{l:List Int}(hC:MS H c b M)(hI:SI M.S)(hl:∀f∈l,B.Ok (A6 M.S.po) f)(h:∀v w,Aot M.S l l.length v w->Q (v,()) () H):Wp Y0 IJ GN (some c,l,()) H Q X:=by
 refine ZF _ _ _ _ _ λhlen=>?_;refine⟨λn x H'=>H'=H/\n=l.length-x.2.2.1/\x.2.2.1<=l.length/\Aot M.S l x.2.2.1 x.1 x.2.1,⟨_,rfl,rfl,Nat.zero_le _,.inl ⟨rfl,λj _ hj=>absurd hj (Nat.not_lt_zero j)⟩⟩,?_⟩;rintro n ⟨v,w,k,_⟩ H' ⟨rfl,hn0,hk0,hT0⟩;have hn:n=l.length-k:=hn0;have hk:k<=l.length:=hk0;have hT:Aot M.S l k v w:=hT0;clear hn0 hk0 hT0;refine⟨λhkl _=>?_,λhkl=>?_⟩
 .have hkl':k<l.length:=hkl;have hf:B.Ok (A6 M.S.po) l[k]:=hl _ (List.getElem_mem hkl');refine⟨hkl,c,rfl,⟨some b⟩,hC.cx,b,rfl,rfl,M.ob,hC.NT.ob,rfl,?_⟩;have stp:∀v' w',Aot M.S l (k+1) v' w'->k+1<=9223372036854775807/\∃m,m<n/\(H'=H'/\m=l.length-(k+1)/\k+1<=l.length/\Aot M.S l (k+1) v' w'):=λv' w' ht=>⟨by show k+1<=_;omega,l.length-(k+1),by omega,rfl,rfl,by omega,ht⟩
  refine Ly hC.NT.st hI.sc.po hf (λh0=>⟨λh=>(by cases h),λ_=>stp v w ?_⟩) λd h0 hd=>⟨λ_=>⟨λhneg=>G9 hC (stp _ _ ?_),λhneg=>G9 hC ⟨λhlt=>G9 hC (stp _ _ ?_),λhlt=>stp v w ?_⟩⟩,λh=>absurd rfl h⟩
  .rcases hT with ⟨e,ht⟩|⟨a1,a2,a3,ht,jx,jx1,jx2,jx3⟩
   .refine .inl ⟨e,λj hj hjk=>?_⟩;by_cases ej:j=k
    .subst ej;exact h0
    .exact ht j hj (by omega)
   .refine .inr ⟨a1,a2,a3,λj hj hjk=>?_,jx,jx1,by omega,jx3⟩;by_cases ej:j=k
    .subst ej;rw[B.Cw h0];have:=(hI.BP.od.MT v a1 a2).2;omega
    .exact ht j hj (by omega)
  .have hneg':v<0:=hneg;rcases hT with ⟨e,ht⟩|⟨a1,a2,a3,ht,jx,jx1,jx2,jx3⟩
   .have hv:=hI.BP.var hd;refine .inr ⟨hv.2.1,hv.2.2,rfl,λj hj hjk=>?_,k,hkl',by omega,B.Bl h0 hd⟩;by_cases ej:j=k
    .subst ej;rw[B.Bl h0 hd];exact Int.le_refl _
    .rw[B.Cw (ht j hj (by omega))];have:=(hI.BP.od.MT d.v hv.2.1 hv.2.2).2;show Dh M.S.lv d.v<=_;omega
   .omega
  .have hneg':¬v<0:=hneg;have hlt':Dh M.S.lv d.v<w:=hlt;rcases hT with ⟨e,ht⟩|⟨a1,a2,a3,ht,jx,jx1,jx2,jx3⟩
   .omega
   .have hv:=hI.BP.var hd;refine .inr ⟨hv.2.1,hv.2.2,rfl,λj hj hjk=>?_,k,hkl',by omega,B.Bl h0 hd⟩;by_cases ej:j=k
    .subst ej;rw[B.Bl h0 hd];exact Int.le_refl _
    .have:=ht j hj (by omega);show Dh M.S.lv d.v<=_;omega
  .have hneg':¬v<0:=hneg;have hlt':¬Dh M.S.lv d.v<w:=hlt;rcases hT with ⟨e,ht⟩|⟨a1,a2,a3,ht,jx,jx1,jx2,jx3⟩
   .omega
   .refine .inr ⟨a1,a2,a3,λj hj hjk=>?_,jx,jx1,by omega,jx3⟩;by_cases ej:j=k
    .subst ej;rw[B.Bl h0 hd];omega
    .exact ht j hj (by omega)
 .have hkl':¬k<l.length:=hkl;have:k=l.length:=by omega
  subst this;exact h v w hT
end
def Mn.wk(M:Mn)(S:B4):Mn:={M with S:=S,ca:=Go.IntKind.wrap .i64 (M.ca+1)}
def Mn.we(M:Mn)(ws:List Bz):Mn:={M with ws:=ws,ca:=0}
def pEv(ev:Bz):Lf Y0.D:={t:=Ty.u 15,x:=({err:=(0:Int),event:=true,ev:=ev}:Fb)}
theorem MS.set{H:HY}{c b:Nat}{M M':Mn}(hC:MS H c b M)(e:DN M M')(hS:M'.S=M.S)(hm:M'.me=M.me):MS (Ac H b (.st CV M'.ob)) c b M'/\JD b M H (Ac H b (.st CV M'.ob)):=by
 have f0:JD b M H (Ac H b (.st CV M'.ob)):=JD.set;refine⟨⟨hC.NT.BA hC.cx (by decide) (by decide) (by decide) (by decide) (by decide) (by decide) f0,Ai _ _ _,?_,?_⟩,f0⟩
 .rw[e.sb,hS];exact hC.NT.st.other hC.NT.ob (by decide) (by decide) (by decide) (by decide)
 .rw[e.mb,hm,Af _ _ (Bj hC.NT.me hC.NT.ob (by decide))];exact hC.NT.me
theorem An4{c b:Nat}{M:Mn}{v lo hi:Int}{H:HY}{X:PX}{Q:Int×Unit->UU}(hC:MS H c b M)(hI:SI M.S)(hv:0<=v/\v<M.S.n)(hlo:B.Ok (A6 M.S.po) lo)(hhi:B.Ok (A6 M.S.po) hi)(hl1:Dh M.S.lv v<B.el M.S.n (Dh M.S.lv) (A6 M.S.po) lo)(hl2:Dh M.S.lv v<B.el M.S.n (Dh M.S.lv) (A6 M.S.po) hi)(hev:∀ev ws H',M.ws=ev::ws->MS H' c b (M.we ws)->JD b M H H'->X 231 (pEv ev) H')(h7:∀H',M.S.po.many=M.S.po.room->MS H' c b (M.wk M.S)->JD b M H H'->X 231 (Aqf 7) H')(h:∀e S' H',MS H' c b (M.wk S')->SI S'->Ip M.S S'->JD b M H H'->B.Ok (A6 S'.po) e->B.den (A6 S'.po) e=(λa=>if a v=true then B.den (A6 M.S.po) hi a else B.den (A6 M.S.po) lo a)->Dh M.S.lv v<=B.el M.S.n (Dh M.S.lv) (A6 S'.po) e->
   (∀i d,A6 S'.po i=some d->A6 M.S.po i=some d∨(i=e/2/\d.v=v))->Q (e,()) () H') :
  Wp Y0 EE DX (some c,v,lo,hi,()) H Q X:=by
 refine Acr _ _ _ _ _ _ _ ?_
 unfold Ua
 have main:Wp Y0 Fq Eb (some M.sb,v,lo,hi,()) (Ac H b (.st CV (M.wk M.S).ob)) (λ(b:Int×Int×Unit)_ H'=>(¬b.2.1=(0:Int)->X 231 (Aqf b.2.1) H')/\(¬¬b.2.1=(0:Int)->Q (b.1,()) () H')) X:=by
  obtain⟨c0,f0⟩:=hC.set (M':=M.wk M.S) ⟨rfl,rfl,rfl,rfl,rfl⟩ rfl rfl;refine Aan (S:=M.S) c0.NT.st hI (λh=>absurd hv h) (λh=>absurd ⟨hlo,hhi⟩ h) (λ_ _ _ _ h=>absurd ⟨hl1,hl2⟩ h) (λhm=>⟨λ_=>h7 _ hm c0 f0,λh=>absurd (by simp) h⟩) λe S' H' _ _ _ _ _ _ s1 hI' hE f1 ho hd hle hnew=>⟨λh=>absurd rfl h,λ_=>?_⟩
  have f1':JD b (M.wk M.S) (Ac H b (.st CV (M.wk M.S).ob)) H':=NF.frm (M:=M.wk M.S) f1;refine h e S' H' ⟨c0.NT.BA c0.cx (by decide) (by decide) (by decide) (by decide) (by decide) (by decide) f1',?_,s1,?_⟩ hI' hE (f0.trans f1' ⟨rfl,rfl,rfl,rfl,rfl⟩) ho hd hle hnew
  .exact c0.NT.st.BA c0.NT.ob (by decide) (by decide) (by decide) (by decide) f1
  .exact c0.NT.st.BA c0.NT.me (by decide) (by decide) (by decide) (by decide) f1
 refine⟨c,rfl,⟨some b⟩,hC.cx,b,rfl,rfl,M.ob,hC.NT.ob,λ_=>⟨λhw=>?_,λ_=>main⟩⟩
 have hw':0<M.ws.length:=hw
 refine⟨λ_=>by decide,hw,hw,λ_=>⟨λ_=>by decide,hw,hw,by decide,by show 1<=M.ws.length;omega,?_⟩,λ_=>main⟩
 cases hws:M.ws with
 |nil=>rw[hws]at hw';simp at hw'
 |cons ev ws=>
  obtain⟨c0,f0⟩:=hC.set (M':=M.we ws) ⟨rfl,rfl,rfl,rfl,rfl⟩ rfl rfl;have hx:=hev ev ws _ hws c0 f0;have e1:M.ob.waits[(0:Int).toNat]'hw=ev:=by
   have:∀(l:List Bz)(hl:(0:Int).toNat<l.length),l=ev::ws->l[(0:Int).toNat]=ev:=λl hl e=>by subst e;rfl
   exact this _ _ hws
  have e2:List.drop (Int.toNat 1) M.ob.waits=ws:=by show List.drop 1 M.ws=ws;rw[hws];rfl
  rw[e1,e2];exact hx
end
end Go.Proofs.YtcbkbpjlbmalmaaGreatDoor
