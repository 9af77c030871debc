/-
  The store: Hold, Drop. (Merged by program out of 5 texts.)
-/
import Derived.Test.YtcbkbpjlbmalmaaGreatDoorpao
namespace Go.Proofs.YtcbkbpjlbmalmaaGreatDoor
open Go Go.X Go.Y
section
structure Sto where
 bl:Nat
 bp:Nat
 tb:List Nat
 lv:Bd
 po:Av
 ta:Nat->Ay
 cn:List Int
 dead:Int
def Sto.ob(S:Sto):Aa:={levels:=some S.bl,Bs:=some S.bp,tables:=S.tb.map some,counts:=S.cn,dead:=S.dead}
structure Dc(H:HY)(b:Nat)(S:Sto):Prop where
 st:H b=some (.st A8 S.ob)
 lv:H S.bl=some (.st Eb S.lv)
 po:H S.bp=some (.st Ek S.po)
 nd:S.tb.Nodup
 ta:∀v(h:v<S.tb.length),H S.tb[v]=some (.st Ct (S.ta v))
variable {H:HY} {b:Nat}
theorem By{c m n:Nat}{x:Y0.O m}{y:Y0.O n}(h1:H b=some (.st m x))(h2:H c=some (.st n y))(h:m≠n):b≠c:=by
 intro e;subst e;rw[h1]at h2;injection h2 with h2
 injection h2 with h2
 exact h h2
def FrE(b:Nat)(S:Sto)(H H':HY):Prop:=∀c,c≠b->c≠S.bl->c≠S.bp->c∉S.tb->H' c=H c
variable {S:Sto}
theorem FrE.refl:FrE b S H H:=λ_ _ _ _ _=>rfl
theorem FrE.trans{S':Sto}{H' H'':HY}(h:FrE b S H H')(k:FrE b S' H' H'')(h1:S'.bl=S.bl)(h2:S'.bp=S.bp)(h3:S'.tb=S.tb):FrE b S H H'':=λc a1 a2 a3 a4=>by rw[k c a1 (by rw[h1];exact a2) (by rw[h2];exact a3) (by rw[h3];exact a4),h c a1 a2 a3 a4]
theorem Dc.Adb(h:Dc H b S)(cn:List Int)(dead:Int):Dc (Ab H b (.st A8 {S with cn:=cn,dead:=dead}.ob)) b {S with cn:=cn,dead:=dead}/\FrE b S H (Ab H b (.st A8 {S with cn:=cn,dead:=dead}.ob)):=by
 refine⟨⟨Aj _ _ _,?_,?_,h.nd,λv hv=>?_⟩,λc hc _ _ _=>Ad _ _ hc⟩
 .rw[Ad _ _ (By h.lv h.st (by decide))];exact h.lv
 .rw[Ad _ _ (By h.po h.st (by decide))];exact h.po
 .rw[Ad _ _ (By (h.ta v hv) h.st (by decide))];exact h.ta v hv
theorem Dc.Awn(h:Dc H b S)(po:Av):Dc (Ab H S.bp (.st Ek po)) b {S with po:=po}/\FrE b S H (Ab H S.bp (.st Ek po)):=by
 refine⟨⟨?_,?_,Aj _ _ _,h.nd,λv hv=>?_⟩,λc _ _ hc _=>Ad _ _ hc⟩
 .rw[Ad _ _ (By h.st h.po (by decide))];exact h.st
 .rw[Ad _ _ (By h.lv h.po (by decide))];exact h.lv
 .rw[Ad _ _ (By (h.ta v hv) h.po (by decide))];exact h.ta v hv
theorem Dc.A9e(h:Dc H b S)(lv:Bd):Dc (Ab H S.bl (.st Eb lv)) b {S with lv:=lv}/\FrE b S H (Ab H S.bl (.st Eb lv)):=by
 refine⟨⟨?_,Aj _ _ _,?_,h.nd,λv hv=>?_⟩,λc _ hc _ _=>Ad _ _ hc⟩
 .rw[Ad _ _ (By h.st h.lv (by decide))];exact h.st
 .rw[Ad _ _ (By h.po h.lv (by decide))];exact h.po
 .rw[Ad _ _ (By (h.ta v hv) h.lv (by decide))];exact h.ta v hv
theorem Dc.Awm(h:Dc H b S){v:Nat}(hv:v<S.tb.length)(t:Ay):Dc (Ab H S.tb[v] (.st Ct t)) b {S with ta:=λw=>if w=v then t else S.ta w}/\FrE b S H (Ab H S.tb[v] (.st Ct t)):=by
 have ht:=h.ta v hv;refine⟨⟨?_,?_,?_,h.nd,λw hw=>?_⟩,λc _ _ _ hc=>Ad _ _ λe=>hc (by rw[e];exact List.getElem_mem hv)⟩
 .rw[Ad _ _ (By h.st ht (by decide))];exact h.st
 .rw[Ad _ _ (By h.lv ht (by decide))];exact h.lv
 .rw[Ad _ _ (By h.po ht (by decide))];exact h.po
 .simp only;by_cases e:w=v
  .subst e;rw[Aj,if_pos rfl]
  .rw[if_neg e,Ad]
   .exact h.ta w hw
   .exact λh'=>e ((List.getElem_inj h.nd).1 h')
def tbl(p:Av):B.Tb:=λi=>(pNd p i).map λn=>⟨n.Var,n.Lo,n.Hi⟩
def rfA(p:Av)(i:Int):Int:=match pNd p i with
 |some n=>n.Refs
 |none=>0
variable {p:Av} {i:Int}
theorem Kd{d:B.Nd}(h:tbl p i=some d):∃n,pNd p i=some n/\n.Var=d.v/\n.Lo=d.lo/\n.Hi=d.hi:=by
 unfold tbl at h;cases hn:pNd p i with
 |none=>rw[hn]at h;cases h
 |some n=>rw[hn]at h;cases h;exact⟨n,rfl,rfl,rfl,rfl⟩
theorem Ln{n:Am}(h:pNd p i=some n):tbl p i=some ⟨n.Var,n.Lo,n.Hi⟩:=by unfold tbl;rw[h];rfl
theorem Awe(h:tbl p i=none):pNd p i=none:=by
 unfold tbl at h;cases hn:pNd p i with
 |none=>rfl
 |some n=>rw[hn]at h;cases h
def cnA(l:List Int)(i:Int):Int:=if 0<=i then (l[i.toNat]?).getD 0 else 0
theorem Afn{l:List Int}(h0:0<=i)(h:i.toNat<l.length):cnA l i=l[i.toNat]:=by unfold cnA;rw[if_pos h0,List.getElem?_eq_getElem h];rfl
theorem Atk{l:List Int}{i x:Int}(h0:0<=i)(h:i.toNat<l.length):cnA (l.set i.toNat (l[i.toNat]+x))=B.bump (cnA l) i x:=by
 funext j;unfold B.bump;by_cases e:j=i
 .subst e;rw[if_pos rfl,Afn h0 h];unfold cnA;rw[if_pos h0];simp [h]
 .rw[if_neg e];unfold cnA;by_cases hj:0<=j
  .rw[if_pos hj,if_pos hj,List.getElem?_set_ne (by omega)]
  .rw[if_neg hj,if_neg hj]
structure SC(S:Sto)(r:Int->Int):Prop where
 po:Iw S.po
 cn:B.Cn (tbl S.po) S.po.at_.length (cnA S.cn) r
 ln:∀i d,tbl S.po i=some d->i.toNat<S.cn.length
 dead:S.dead=B.sm S.po.at_.length (B.zr (tbl S.po) (cnA S.cn))
theorem Avv{N:B.Tb}{c:Int->Int}{p:Int}:0<=B.zr N c p/\B.zr N c p<=1:=by
 unfold B.zr;split
 .split<;>omega
 .omega
theorem SC.db{r:Int->Int}(h:SC S r):0<=S.dead/\S.dead<=1048577:=by rw[h.dead];have h1:0<=B.sm S.po.at_.length (B.zr (tbl S.po) (cnA S.cn)):=B.Ac9 λ_ _ _=>Avv.1;have h2:B.sm S.po.at_.length (B.zr (tbl S.po) (cnA S.cn))<=B.sm S.po.at_.length (λ_=>1):=B.Ar2 λ_ _ _=>Avv.2;rw[B.Anh]at h2;have:=h.po.len;have:=h.po.room;omega
def Sto.wc(S:Sto)(cn:List Int)(dead:Int):Sto:={S with cn:=cn,dead:=dead}
theorem Sv{rk:Int->Int}{n:Int}{X:PX}:∀(k:Nat){S:Sto}{r:Int->Int}{f:Int}{H:HY}{Q:Unit->UU},B.Dag (tbl S.po) rk n->(f/2≠0->n-rk (f/2)<k)->Dc H b S->SC S r->B.Ok (tbl S.po) f->(∀i d,tbl S.po i=some d->r i+B.dl f i<=1152921504606846976)->(∀cn dead H',Dc H' b (S.wc cn dead)->SC (S.wc cn dead) (λi=>r i+B.dl f i)->(∀i,cnA S.cn i<=cnA cn i)->FrE b S H H'->Q () () H')->Wp Y0 B9 B3 (some b,f,()) H Q X:=by
 intro k;induction k with
 |zero=>
  intro S r f H Q hD hk hS hC hf hB h;refine Ri _ _ _ _ _ ?_;unfold Md;rw[Pk hf.1];refine⟨λh0=>?_,λh0=>?_⟩
  .refine h S.cn S.dead H hS ⟨hC.po,hC.cn.congr λi hi=>?_,hC.ln,hC.dead⟩ (λ_=>Int.le_refl _) FrE.refl;rw[B.Qw (by omega)];omega
  .obtain⟨d,hd⟩:=hf.2.resolve_left h0;have:=hk h0;have:=hD.rng hd;omega
 |succ k ih=>
  intro S r f H Q hD hk hS hC hf hB h;refine Ri _ _ _ _ _ ?_;unfold Md;rw[Pk hf.1];refine⟨λh0=>?_,λh0=>?_⟩
  .refine h S.cn S.dead H hS ⟨hC.po,hC.cn.congr λi hi=>?_,hC.ln,hC.dead⟩ (λ_=>Int.le_refl _) FrE.refl;rw[B.Qw (by omega)];omega
  obtain⟨d,hd⟩:=hf.2.resolve_left h0;obtain⟨nd,hnd,hv,hlo,hhi⟩:=Kd hd;have hrk:=hD.rng hd;have hk':=hk h0;have hdm:=hC.cn.dom hd;have hln:=hC.ln _ _ hd;have hf2:0<=f/2:=by have:=hf.1;omega
  have hcl:=hC.cn.le hd;have hcg:=hC.cn.nn hd;have hrb:=hB _ _ hd;have hpl:=hC.po.len;have hpr:=hC.po.room;have hself:=@B.Lj f;have hcn:=Afn hf2 hln;have hbump:=@Atk S.cn (f/2) 1 hf2 hln;have hmono:∀i,cnA S.cn i<=cnA (S.cn.set (f/2).toNat (S.cn[(f/2).toNat]+1)) i:=λi=>by rw[hbump];unfold B.bump;split<;>omega
  refine⟨b,rfl,S.ob,hS.st,λ_=>⟨λ_=>hf2,hln,hln,λ_=>⟨Bk.2 (by show _<=S.cn[(f/2).toNat]+1/\S.cn[(f/2).toNat]+1<=_;omega),λ_=>⟨λ_=>hf2,hln,hln,λ_=>⟨λ_=>hf2,by simpa [Sto.ob] using hln,by simpa [Sto.ob] using hln,λh1=>?_,λh1 hdead=>?_⟩⟩⟩⟩⟩
  .have h1':1<S.cn[(f/2).toNat]+1:=by simpa [Sto.ob] using h1
   obtain⟨c1,c2⟩:=hC.cn.A8f (f:=f) hd (by omega);obtain⟨s1,s2⟩:=hS.Adb (S.cn.set (f/2).toNat (S.cn[(f/2).toNat]+1)) S.dead;refine h _ _ _ s1 ⟨hC.po,?_,λi d' hi=>by show i.toNat<(S.cn.set _ _).length;rw[List.length_set];exact hC.ln i d' hi,?_⟩ hmono s2
   .show B.Cn (tbl S.po) S.po.at_.length (cnA (S.cn.set _ _)) _;rw[hbump];exact c1
   .show S.dead=B.sm S.po.at_.length (B.zr (tbl S.po) (cnA (S.cn.set _ _)));rw[hbump,c2];exact hC.dead
  .have h1':¬1<S.cn[(f/2).toNat]+1:=by simpa [Sto.ob] using h1
   obtain⟨c1,c2⟩:=hC.cn.A8g (f:=f) hd (by omega);have hdb:=hC.db;obtain⟨s1,s2⟩:=hS.Adb (S.cn.set (f/2).toNat (S.cn[(f/2).toNat]+1)) (S.dead-1);refine⟨Bk.2 (by show _<=S.dead-1/\S.dead-1<=_;omega),?_⟩;refine Kj (x:=S.po) s1.po hC.po (λhn=>by rw[hnd]at hn;cases hn) λm hm=>?_;rw[hnd]at hm;obtain rfl:nd=m:=by injection hm
   obtain⟨ol,rl⟩:=hD.lo hd;obtain⟨oh,rh⟩:=hD.hi hd;have hC1:SC (S.wc (S.cn.set (f/2).toNat (S.cn[(f/2).toNat]+1)) (S.dead-1)) (λi=>r i+B.dl f i-B.mu d i):=by
    refine⟨hC.po,?_,λi d' hi=>by show i.toNat<(S.cn.set _ _).length;rw[List.length_set];exact hC.ln i d' hi,?_⟩
    .show B.Cn (tbl S.po) S.po.at_.length (cnA (S.cn.set _ _)) _;rw[hbump];exact c1
    .show S.dead-1=B.sm S.po.at_.length (B.zr (tbl S.po) (cnA (S.cn.set _ _)));rw[hbump,c2,<-hC.dead]
   simp only[hlo,hhi];refine ih (S:=S.wc (S.cn.set (f/2).toNat (S.cn[(f/2).toNat]+1)) (S.dead-1)) hD (λh2=>by have:=rl h2;omega) s1 hC1 ol (λi d' hi=>?_) λcn2 dead2 H2 s3 hC2 m2 fr2=>?_
   .have:=hB i d' hi;have:=@B.Ku d.hi i;simp only[B.mu];omega
   refine ih (S:=S.wc cn2 dead2) hD (λh2=>by have:=rh h2;omega) s3 hC2 oh (λi d' hi=>?_) λcn3 dead3 H3 s4 hC3 m3 fr3=>?_
   .have:=hB i d' hi;have:=@B.Ku d.hi i;simp only[B.mu];omega
   refine h cn3 dead3 H3 s4 ⟨hC3.po,hC3.cn.congr λi _=>?_,hC3.ln,hC3.dead⟩ (λi=>Int.le_trans (hmono i) (Int.le_trans (m2 i) (m3 i))) ((s2.trans fr2 rfl rfl rfl).trans fr3 rfl rfl rfl);simp only[B.mu];omega
end
section
theorem Sw{b:Nat}{rk:Int->Int}{n:Int}{X:PX}:∀(k:Nat){S:Sto}{r:Int->Int}{f:Int}{H:HY}{Q:Unit->UU},B.Dag (tbl S.po) rk n->(f/2≠0->n-rk (f/2)<k)->Dc H b S->SC S r->B.Ok (tbl S.po) f->(∀i d,tbl S.po i=some d->B.dl f i<=r i)->(∀cn dead H',Dc H' b (S.wc cn dead)->SC (S.wc cn dead) (λi=>r i-B.dl f i)->FrE b S H H'->Q () () H')->Wp Y0 Ca B4 (some b,f,()) H Q X:=by
 intro k;induction k with
 |zero=>
  intro S r f H Q hD hk hS hC hf hB h;refine Rj _ _ _ _ _ ?_;unfold Me;rw[Pk hf.1];refine⟨λh0=>?_,λh0=>?_⟩
  .refine h S.cn S.dead H hS ⟨hC.po,hC.cn.congr λi hi=>?_,hC.ln,hC.dead⟩ FrE.refl;rw[B.Qw (by omega)];omega
  .obtain⟨d,hd⟩:=hf.2.resolve_left h0;have:=hk h0;have:=hD.rng hd;omega
 |succ k ih=>
  intro S r f H Q hD hk hS hC hf hB h;refine Rj _ _ _ _ _ ?_;unfold Me;rw[Pk hf.1];refine⟨λh0=>?_,λh0=>?_⟩
  .refine h S.cn S.dead H hS ⟨hC.po,hC.cn.congr λi hi=>?_,hC.ln,hC.dead⟩ FrE.refl;rw[B.Qw (by omega)];omega
  obtain⟨d,hd⟩:=hf.2.resolve_left h0;obtain⟨nd,hnd,hv,hlo,hhi⟩:=Kd hd;have hrk:=hD.rng hd;have hk':=hk h0;have hdm:=hC.cn.dom hd;have hln:=hC.ln _ _ hd;have hf2:0<=f/2:=by have:=hf.1;omega
  have hcl:=hC.cn.le hd;have hcg:=hC.cn.ge hd;have hrb:=hB _ _ hd;have hpl:=hC.po.len;have hpr:=hC.po.room;have hself:=@B.Lj f;have hcn:=Afn hf2 hln;have hbump:cnA (S.cn.set (f/2).toNat (S.cn[(f/2).toNat]-1))=B.bump (cnA S.cn) (f/2) (-1):=@Atk S.cn (f/2) (-1) hf2 hln;refine⟨b,rfl,S.ob,hS.st,λ_=>⟨λ_=>hf2,hln,hln,λhik=>⟨Bk.2 (by have hik':-9223372036854775808<=S.cn[(f/2).toNat]/\S.cn[(f/2).toNat]<=9223372036854775807:=Bk.1 hik;show _<=S.cn[(f/2).toNat]-1/\S.cn[(f/2).toNat]-1<=_;omega),λ_=>⟨λ_=>hf2,hln,hln,λ_=>⟨λ_=>hf2,by simpa [Sto.ob] using hln,by simpa [Sto.ob] using hln,λh1=>?_,λh1 hdead=>?_⟩⟩⟩⟩⟩
  .have h1':0<S.cn[(f/2).toNat]-1:=by simpa [Sto.ob] using h1
   obtain⟨c1,c2⟩:=hC.cn.A8i (f:=f) hd (by omega);obtain⟨s1,s2⟩:=hS.Adb (S.cn.set (f/2).toNat (S.cn[(f/2).toNat]-1)) S.dead;refine h _ _ _ s1 ⟨hC.po,?_,λi d' hi=>by show i.toNat<(S.cn.set _ _).length;rw[List.length_set];exact hC.ln i d' hi,?_⟩ s2
   .show B.Cn (tbl S.po) S.po.at_.length (cnA (S.cn.set _ _)) _;rw[hbump];exact c1
   .show S.dead=B.sm S.po.at_.length (B.zr (tbl S.po) (cnA (S.cn.set _ _)));rw[hbump,c2];exact hC.dead
  .have h1':¬0<S.cn[(f/2).toNat]-1:=by simpa [Sto.ob] using h1
   obtain⟨c1,c2⟩:=hC.cn.A8j (f:=f) hd (by omega);have hdb:=hC.db;obtain⟨s1,s2⟩:=hS.Adb (S.cn.set (f/2).toNat (S.cn[(f/2).toNat]-1)) (S.dead+1);refine⟨Bk.2 (by show _<=S.dead+1/\S.dead+1<=_;omega),?_⟩;refine Kj (x:=S.po) s1.po hC.po (λhn=>by rw[hnd]at hn;cases hn) λm hm=>?_;rw[hnd]at hm;obtain rfl:nd=m:=by injection hm
   obtain⟨ol,rl⟩:=hD.lo hd;obtain⟨oh,rh⟩:=hD.hi hd;have hC1:SC (S.wc (S.cn.set (f/2).toNat (S.cn[(f/2).toNat]-1)) (S.dead+1)) (λi=>r i-B.dl f i+B.mu d i):=by
    refine⟨hC.po,?_,λi d' hi=>by show i.toNat<(S.cn.set _ _).length;rw[List.length_set];exact hC.ln i d' hi,?_⟩
    .show B.Cn (tbl S.po) S.po.at_.length (cnA (S.cn.set _ _)) _;rw[hbump];exact c1
    .show S.dead+1=B.sm S.po.at_.length (B.zr (tbl S.po) (cnA (S.cn.set _ _)));rw[hbump,c2,<-hC.dead]
   simp only[hlo,hhi];refine ih (S:=S.wc (S.cn.set (f/2).toNat (S.cn[(f/2).toNat]-1)) (S.dead+1)) hD (λh2=>by have:=rl h2;omega) s1 hC1 ol (λi d' hi=>?_) λcn2 dead2 H2 s3 hC2 fr2=>?_
   .have:=hB i d' hi;have:=@B.Ku d.hi i;have:=@B.Ku d.lo i;have:=@B.Ku f i;simp only[B.mu];omega
   refine ih (S:=S.wc cn2 dead2) hD (λh2=>by have:=rh h2;omega) s3 hC2 oh (λi d' hi=>?_) λcn3 dead3 H3 s4 hC3 fr3=>?_
   .have:=hB i d' hi;have:=@B.Ku d.hi i;have:=@B.Ku d.lo i;have:=@B.Ku f i;simp only[B.mu];omega
   refine h cn3 dead3 H3 s4 ⟨hC3.po,hC3.cn.congr λi _=>?_,hC3.ln,hC3.dead⟩ ((s2.trans fr2 rfl rfl rfl).trans fr3 rfl rfl rfl);simp only[B.mu];omega
section
variable {b:Nat} {S:Sto} {r:Int->Int} {f v:Int} {H:HY} {X:PX}
theorem An1{p:Av}(h:Iw p):pNd p 0=none:=by
 unfold pNd;split
 .rename_i ht;have:=(h.tk ht).1;omega
 .rfl
theorem A2z{p:Av}(h:Iw p):tbl p 0=none:=by unfold tbl;rw[An1 h];rfl
theorem Ke{Q:Int×Unit->UU}(hS:Dc H b S)(h:Q (lvA S.lv v,()) () H):Wp Y0 Cl Cb (some b,v,()) H Q X:=by refine Yp _ _ _ _ _ ?_;exact⟨λh=>absurd h (by simp),λ_=>⟨b,rfl,S.ob,hS.st,rfl,Ae2 hS.lv h⟩⟩
theorem Pz{Q:Bool×Unit->UU}(hS:Dc H b S)(hP:Iw S.po)(h:∀t:Bool,(t=true↔B.Ok (tbl S.po) f)->Q (t,()) () H):Wp Y0 Fg Ei (some b,f,()) H Q X:=by
 refine Adn _ _ _ _ _ ?_;unfold T5;refine⟨λh=>absurd h (by simp),λ_=>⟨λh0=>h false ⟨λh=>(by cases h),λh=>absurd h.1 (by omega)⟩,λh0=>?_⟩⟩;have h0':0<=f:=by omega
 rw[Pk h0'];have key:∀Q':Am×Bool×Unit->UU,(∀n t,Q' (n,t,()) () H=((f/2=0->Q (true,()) () H)/\(¬f/2=0->Q (t,()) () H)))->Wp Y0 Bf Bc (some S.bp,f/2,()) H Q' X:=λQ' hQ=>by
  refine Kj hS.po hP (λhn=>?_) λn hn=>?_
  .rw[hQ];exact⟨λe=>h true ⟨λ_=>⟨h0',.inl e⟩,λ_=>rfl⟩,λe=>h false ⟨λh=>(by cases h),λh=>by obtain⟨d,hd⟩:=h.2.resolve_left e;obtain⟨m,hm,_⟩:=Kd hd;rw[hn]at hm;cases hm⟩⟩
  .rw[hQ];have:B.Ok (tbl S.po) f:=⟨h0',.inr ⟨_,Ln hn⟩⟩
   exact⟨λ_=>h true ⟨λ_=>this,λ_=>rfl⟩,λ_=>h true ⟨λ_=>this,λ_=>rfl⟩⟩
 have k2:=key (λb io H'=>(f/2=0->Q (true,()) () H')/\(¬f/2=0->Q (b.2.1,()) () H')) (λ_ _=>rfl);exact⟨b,rfl,⟨S.ob,hS.st,⟨rfl,k2⟩,rfl,k2⟩,S.ob,hS.st,rfl,k2⟩
end
end
section
def Sto.n(S:Sto):Int:=S.tb.length
section
variable {b:Nat} {S:Sto} {r:Int->Int} {f v:Int} {H:HY} {X:PX}
theorem R8{Q:Int×Int×Int×Bool×Unit->UU}(hS:Dc H b S)(hP:Iw S.po)(hf:B.Ok (tbl S.po) f)(h0:f/2=0->Q (-1,0,0,false,()) () H)(h1:∀d,f/2≠0->tbl S.po (f/2)=some d->Q (d.v,B.fl d.lo f,B.fl d.hi f,true,()) () H):Wp Y0 Fh Ej (some b,f,()) H Q X:=by
 refine Ado _ _ _ _ _ ?_;unfold T6;have hf0:=hf.1;refine⟨λh=>absurd h (by simp),λ_=>⟨λh=>by omega,λ_=>?_⟩⟩;rw[Pk hf0];simp only[Pl hf0];have key:Wp Y0 Bf Bc (some S.bp,f/2,()) H (λ(b:Am×Bool×Unit)io H'=>(¬b.2.1=true->Q (-1,0,0,false,()) () H')/\(¬¬b.2.1=true->Q (b.1.Var,B.fl b.1.Lo f,B.fl b.1.Hi f,true,()) () H')) X:=by
  refine Kj hS.po hP (λhn=>⟨λ_=>?_,λh=>absurd (by simp) h⟩) λn hn=>⟨λh=>absurd rfl h,λ_=>?_⟩
  .refine h0 ?_;rcases hf.2 with h|⟨d,hd⟩
   .exact h
   .obtain⟨m,hm,_⟩:=Kd hd;rw[hn]at hm;cases hm
  .refine h1 ⟨n.Var,n.Lo,n.Hi⟩ (λe=>?_) (Ln hn);rw[e,An1 hP]at hn;cases hn
 exact⟨b,rfl,⟨S.ob,hS.st,⟨trivial,key⟩,trivial,key⟩,S.ob,hS.st,trivial,key⟩
theorem We{l:Int}{Q:Bool×Unit->UU}(hS:Dc H b S)(hP:Iw S.po)(hf:B.Ok (tbl S.po) f)(hl:l<S.n)(h:Q (decide (l<B.el S.n (lvA S.lv) (tbl S.po) f),()) () H):Wp Y0 Ii F5 (some b,f,l,()) H Q X:=by
 refine Yk _ _ _ _ _ _ ?_;unfold Qr;rw[Pk hf.1];have key:Wp Y0 Bf Bc (some S.bp,f/2,()) H (λ(b_1:Am×Bool×Unit)io H'=>(f/2=(0:Int)->Q (true,()) () H')/\(¬f/2=(0:Int)->(b_1.2.1=true->Wp Y0 Cl Cb (some b,b_1.1.Var,()) H' (λ(b:Int×Unit)io H'=>Q (decide (l<b.1),()) () H') X)/\(¬b_1.2.1=true->Q (false,()) () H'))) X:=by
  have c0:f/2=0->Q (true,()) () H:=λe=>by rw[B.Dt e,decide_eq_true hl]at h;exact h
  refine Kj hS.po hP (λhn=>⟨c0,λh2=>?_⟩) λn hn=>⟨c0,λh2=>⟨λ_=>?_,λh=>absurd rfl h⟩⟩
  .obtain⟨d,hd⟩:=hf.2.resolve_left h2;obtain⟨m,hm,_⟩:=Kd hd;rw[hn]at hm;cases hm
  .refine Ke hS ?_;rw[B.Bz h2 (Ln hn)]at h;exact h
 exact⟨b,rfl,⟨S.ob,hS.st,⟨rfl,key⟩,rfl,key⟩,S.ob,hS.st,rfl,key⟩
theorem Wf{y:Int}{Q:Int×Int×Unit->UU}(hS:Dc H b S)(hP:Iw S.po)(hf:B.Ok (tbl S.po) f)(h:Q ((B.sp (tbl S.po) y f).1,(B.sp (tbl S.po) y f).2,()) () H):Wp Y0 Ij F6 (some b,f,y,()) H Q X:=by
 refine Yl _ _ _ _ _ _ ?_;unfold Qs;refine R8 hS hP hf (λh0=>⟨λ_=>?_,λh=>absurd (by simp) h⟩) λd h0 hd=>⟨λh=>absurd rfl h,λ_=>⟨λhv=>?_,λhv=>?_⟩⟩
 .have:B.sp (tbl S.po) y f=(f,f):=by unfold B.sp;rw[h0,A2z hP]
  rw[this]at h;exact h
 .have:B.sp (tbl S.po) y f=(f,f):=by unfold B.sp;rw[hd];exact if_neg hv
  rw[this]at h;exact h
 .have:B.sp (tbl S.po) y f=(B.fl d.lo f,B.fl d.hi f):=by unfold B.sp;rw[hd];exact if_pos (by simpa using hv)
  rw[this]at h;exact h
theorem Ail{Q:Int×Unit->UU}(hS:Dc H b S)(h:Q (S.lv.vars.length,()) () H):Wp Y0 Ml I5 (some b,()) H Q X:=by refine Z6 _ _ _ _ ?_;exact⟨λh=>absurd h (by simp),λ_=>⟨b,rfl,S.ob,hS.st,S.bl,rfl,rfl,S.lv,hS.lv,λ_=>⟨rfl,h⟩⟩⟩
end
theorem A19{l:List Int}{k:Nat}:cnA (l++List.replicate k 0)=cnA l:=by
 funext i;unfold cnA;by_cases h0:0<=i
 .rw[if_pos h0,if_pos h0];by_cases h:i.toNat<l.length
  .rw[List.getElem?_append_left h]
  .rw[List.getElem?_append_right (by omega),List.getElem?_eq_none (by omega:l.length<=i.toNat)];by_cases h2:i.toNat-l.length<k
   .rw[List.getElem?_eq_getElem (by simpa using h2)];simp
   .rw[List.getElem?_eq_none (by simp;omega)]
 .rw[if_neg h0,if_neg h0]
theorem A18{l:List Int}{i:Int}(h0:0<=i)(h:i.toNat<l.length):cnA (l.set i.toNat 0)=λj=>if j=i then 0 else cnA l j:=by
 funext j;by_cases e:j=i
 .subst e;rw[if_pos rfl];unfold cnA;rw[if_pos h0];simp [h]
 .rw[if_neg e];unfold cnA;by_cases hj:0<=j
  .rw[if_pos hj,if_pos hj,List.getElem?_set_ne (by omega)]
  .rw[if_neg hj,if_neg hj]
theorem A7a{N:B.Tb}{m m':Nat}{c r:Int->Int}(h:B.Cn N m c r)(hK:∀p d,N p=some d->B.Ok N d.lo/\B.Ok N d.hi){i:Int}{d:B.Nd}(hi0:0<i)(him:i<m')(hm:m<=m')(hold:N i=none)(hr:r i=0):B.Cn (B.Oa N i d) m' (λj=>if j=i then 0 else c j) r/\B.sm m' (B.zr (B.Oa N i d) (λj=>if j=i then 0 else c j))=B.sm m (B.zr N c)+1:=by
 have hx:∀j,j≠i->B.Oa N i d j=N j:=λj hj=>if_neg hj;have hs:B.Oa N i d i=some d:=if_pos rfl;have hpt:∀j p,B.pt (B.Oa N i d) (λj=>if j=i then 0 else c j) j p=B.pt N c j p:=λj p=>by
  unfold B.pt;by_cases e:p=i
  .subst e;rw[hs,hold];simp
  .rw[hx p e];simp only[if_neg e]
 have hout:∀j(p:Int),(m:Int)<=p->B.pt N c j p=0:=λj p hp=>by
  unfold B.pt;cases hN:N p with
  |none=>rfl
  |some d'=>have:=(h.dom hN).2;omega
 have Qg:∀j,B.sm m' (B.pt (B.Oa N i d) (λj=>if j=i then 0 else c j) j)=B.sm m (B.pt N c j):=λj=>by rw[B.Il (g:=B.pt N c j) λp _ _=>hpt j p];exact B.Ala hm λk hk _=>hout j k hk
 have hzero:B.sm m (B.pt N c i)=0:=by
  rw[B.Il (g:=λ_=>0) (λp _ _=>?_),B.Afd];unfold B.pt;cases hN:N p with
  |none=>rfl
  |some d'=>
   have hk:=hK p d' hN;have hne:∀e,B.Ok N e->B.dl e i=0:=λe he=>B.Qw λe'=>by
    rcases he.2 with h2|⟨d2,h2⟩
    .omega
    .rw[<-e',hold]at h2;cases h2
   simp only[B.mu,hne _ hk.1,hne _ hk.2];simp
 refine⟨⟨λ{j d'}hj=>?_,λ{j d'}hj=>?_,λ{j d'}hj=>?_⟩,?_⟩
 .by_cases e:j=i
  .subst e;exact⟨hi0,him⟩
  .rw[hx j e]at hj;have:=h.dom hj;omega
 .by_cases e:j=i
  .rw[if_pos e];exact Int.le_refl _
  .rw[if_neg e];rw[hx j e]at hj;exact h.nn hj
 .rw[Qg];by_cases e:j=i
  .subst e;rw[if_pos rfl,hzero,hr];rfl
  .rw[if_neg e];rw[hx j e]at hj;exact h.eq hj
 .have hz:∀p,p≠i->B.zr (B.Oa N i d) (λj=>if j=i then 0 else c j) p=B.zr N c p:=λp hp=>by unfold B.zr;rw[hx p hp];simp only[if_neg hp]
  rw[B.Ada (by omega) him hz];have h1:B.zr (B.Oa N i d) (λj=>if j=i then 0 else c j) i=1:=by unfold B.zr;rw[hs];simp
  have h2:B.zr N c i=0:=by unfold B.zr;rw[hold]
  rw[h1,h2,B.Ala hm λk hk _=>?_];· omega
  unfold B.zr;cases hN:N k with
  |none=>rfl
  |some d'=>have:=(h.dom hN).2;omega
structure Arf(S:Sto)(v lo hi i:Int)(S':Sto):Prop where
 tbl:tbl S'.po=B.Oa (tbl S.po) i ⟨v,lo,hi⟩
 old:YtcbkbpjlbmalmaaGreatDoor.tbl S.po i=none
 pos:0<i
 lt:i<2000000
 rf:∀j,rfA S'.po j=rfA S.po j
 lv:S'.lv=S.lv
 tb:S'.tb=S.tb
 bl:S'.bl=S.bl
 bp:S'.bp=S.bp
 room:S'.po.room=S.po.room
 many:S'.po.many=S.po.many+1
 ta:∀w:Nat,S'.ta w=if w=v.toNat then ⟨C4 (S.ta w).ids (⟨lo,hi⟩:K2) i⟩ else S.ta w
 cn:∀j,cnA S'.cn j=if j=i then 0 else cnA S.cn j
def Sto.wa(S:Sto)(po:Av)(cn:List Int)(dead:Int)(v:Nat)(t:Ay):Sto:={S with po:=po,cn:=cn,dead:=dead,ta:=λw=>if w=v then t else S.ta w}
theorem Aba{b:Nat}{S:Sto}{r:Int->Int}{v lo hi:Int}{H:HY}{X:PX}{Q:Int×Int×Unit->UU}(hS:Dc H b S)(hC:SC S r)(hK:∀p d,tbl S.po p=some d->B.Ok (tbl S.po) d.lo/\B.Ok (tbl S.po) d.hi)(hr:∀i,tbl S.po i=none->r i=0)(hv:0<=v/\v<S.n)(hnew:Ac (S.ta v.toNat).ids (⟨lo,hi⟩:K2)=none)(h0:S.po.many=S.po.room->Q (0,7,()) () H)(h1:∀i S' H',S.po.many<S.po.room->Arf S v lo hi i S'->Dc H' b S'->SC S' r->FrE b S H H'->Q (i,0,()) () H'):Wp Y0 J8 Hh (some b,v,lo,hi,()) H Q X:=by
 refine Abp _ _ _ _ _ _ _ ?_;unfold Se;refine⟨b,rfl,S.ob,hS.st,rfl,Alm hS.po hC.po (λhm=>⟨λ_=>h0 hm,λh=>absurd (by simp) h⟩) λi x' ht hroom=>⟨λh=>absurd rfl h,λ_=>?_⟩⟩;have hv':v.toNat<S.tb.length:=by have:=hv.2;unfold Sto.n at this;omega
 have hpos:=ht.pos;have hlt:=ht.lt;have hpl:=ht.inv.len;have hpr:=ht.inv.room;obtain⟨s1,f1⟩:=hS.Awn x';have hold:tbl S.po i=none:=by unfold tbl;rw[ht.old];rfl
 have htb:tbl x'=B.Oa (tbl S.po) i ⟨v,lo,hi⟩:=by funext j;unfold tbl B.Oa;rw[ht.nd];split<;>rfl
 have hrf:∀j,rfA x' j=rfA S.po j:=λj=>by
  unfold rfA;rw[ht.nd];by_cases e:j=i
  .rw[if_pos e,e,ht.old]
  .rw[if_neg e]
 refine⟨λn _ H'=>∃k,n=i.toNat+1-(S.cn.length+k)/\Dc H' b {S with po:=x',cn:=S.cn++List.replicate k 0}/\FrE b S H H',⟨_,0,rfl,by simpa using s1,f1⟩,λn _ H'⟨k,hn,s2,f2⟩=>⟨_,s2.st,λ_=>⟨λhle=>?_,λhle _=>⟨λ_=>by omega,?_⟩⟩⟩⟩
 .have hle':((S.cn++List.replicate k 0).length:Int)<=i:=hle;simp only[List.length_append,List.length_replicate]at hle';refine⟨?_,i.toNat+1-(S.cn.length+(k+1)),by omega,k+1,rfl,?_,?_⟩
  .show ((S.cn++List.replicate k 0).length+1)*8<=_;simp only[List.length_append,List.length_replicate];omega
  .have:=(s2.Adb (S.cn++List.replicate (k+1) 0) S.dead).1;rw[List.replicate_succ',<-List.append_assoc]at this;rw[List.replicate_succ',<-List.append_assoc];exact this
  .have:=(s2.Adb (S.cn++List.replicate k 0++[0]) S.dead).2;exact f2.trans this rfl rfl rfl
 .have hle':¬((S.cn++List.replicate k 0).length:Int)<=i:=hle;have hil:i.toNat<(S.cn++List.replicate k 0).length:=by omega
  have hdb:=hC.db;refine⟨hil,hil,λ_=>⟨Bk.2 (by show _<=S.dead+1/\S.dead+1<=_;omega),λ_=>⟨λ_=>hv.1,by simpa [Sto.ob] using hv',by simpa [Sto.ob] using hv',?_⟩⟩⟩;obtain⟨s3,f3⟩:=s2.Adb ((S.cn++List.replicate k 0).set i.toNat 0) (S.dead+1);have ht0:=s3.ta v.toNat hv';obtain⟨s4,f4⟩:=s3.Awm hv' ⟨C4 (S.ta v.toNat).ids (⟨lo,hi⟩:K2) i⟩;have s5:Dc (Ab (Ab H' b (.st A8 (Sto.ob {S with po:=x',cn:=(S.cn++List.replicate k 0).set i.toNat 0,dead:=S.dead+1}))) S.tb[v.toNat] (.st Ct ⟨C4 (S.ta v.toNat).ids (⟨lo,hi⟩:K2) i⟩)) b (S.wa x' ((S.cn++List.replicate k 0).set i.toNat 0) (S.dead+1) v.toNat ⟨C4 (S.ta v.toNat).ids (⟨lo,hi⟩:K2) i⟩):=s4;have hx:({S with po:=x',cn:=S.cn++List.replicate k 0}:Sto).ob.tables[v.toNat]'(by simpa [Sto.ob] using hv')=some S.tb[v.toNat]:=by simp [Sto.ob]
  rw[hx];refine Afy ht0 hnew ?_;have hcA:cnA ((S.cn++List.replicate k 0).set i.toNat 0)=λj=>if j=i then 0 else cnA S.cn j:=by rw[A18 (by omega) hil,A19]
  obtain⟨c1,c2⟩:=A7a (d:=⟨v,lo,hi⟩) hC.cn hK hpos hlt ht.len hold (hr i hold);have e1:∀(A B:HY),A=B->Dc B b (S.wa x' ((S.cn++List.replicate k 0).set i.toNat 0) (S.dead+1) v.toNat ⟨C4 (S.ta v.toNat).ids (⟨lo,hi⟩:K2) i⟩)->Dc A b (S.wa x' ((S.cn++List.replicate k 0).set i.toNat 0) (S.dead+1) v.toNat ⟨C4 (S.ta v.toNat).ids (⟨lo,hi⟩:K2) i⟩):=λA B e h=>by rw[e];exact h
  refine h1 i (S.wa x' ((S.cn++List.replicate k 0).set i.toNat 0) (S.dead+1) v.toNat ⟨C4 (S.ta v.toNat).ids (⟨lo,hi⟩:K2) i⟩) _ hroom ⟨htb,hold,hpos,by omega,hrf,rfl,rfl,rfl,rfl,ht.room,ht.many,λw=>?_,λj=>by exact congrFun hcA j⟩ (e1 _ _ (by rfl) s5) ⟨ht.inv,?_,λj d hj=>?_,?_⟩ ((f2.trans f3 rfl rfl rfl).trans f4 rfl rfl rfl)
  .show (if w=v.toNat then _ else S.ta w)=_;by_cases e:w=v.toNat
   .rw[if_pos e,if_pos e,e]
   .rw[if_neg e,if_neg e]
  .show B.Cn (tbl x') x'.at_.length (cnA ((S.cn++List.replicate k 0).set i.toNat 0)) r;rw[htb,hcA];exact c1
  .show j.toNat<((S.cn++List.replicate k 0).set i.toNat 0).length;rw[List.length_set];have hj':tbl x' j=some d:=hj;rw[htb]at hj';by_cases e:j=i
   .rw[e];exact hil
   .rw[B.Oa,if_neg e]at hj';have:=hC.ln j d hj';simp;omega
  .show S.dead+1=B.sm x'.at_.length (B.zr (tbl x') (cnA ((S.cn++List.replicate k 0).set i.toNat 0)));rw[htb,hcA,c2,hC.dead]
end
section
structure SI(S:Sto):Prop where
 sc:SC S (rfA S.po)
 C6:B.Good S.n (lvA S.lv) (tbl S.po)
 vl:S.lv.vars.length=S.tb.length
 ll:S.lv.level.length=S.tb.length
 inv:∀(l:Nat)(v:Int),S.lv.vars[l]?=some v->0<=v/\v<S.n/\lvA S.lv v=(l:Int)
 tn:∀v:Nat,v<S.tb.length->mnd (S.ta v).ids
 tg:∀v:Nat,v<S.tb.length->∀lo hi i,Ac (S.ta v).ids (⟨lo,hi⟩:K2)=some i↔tbl S.po i=some ⟨(v:Int),lo,hi⟩
 rf:∀i,0<=rfA S.po i
theorem Sto.P4{S:Sto}:0<=S.n:=by unfold Sto.n;omega
variable {i:Int}
theorem Af6{p:Av}(h:tbl p i=none):rfA p i=0:=by unfold rfA;rw[Awe h]
variable {S:Sto}
theorem SI.kids(h:SI S):∀p d,tbl S.po p=some d->B.Ok (tbl S.po) d.lo/\B.Ok (tbl S.po) d.hi:=λ_ _ hd=>⟨(h.C6.lo hd).1,(h.C6.hi hd).1⟩
variable {v:Int}
theorem SI.lvl(h:SI S):0<=lvA S.lv v↔0<=v/\v<S.n:=by
 constructor
 .intro h0;unfold lvA at h0;by_cases hv:0<=v
  .rw[if_pos hv]at h0;refine⟨hv,?_⟩;by_cases hl:v.toNat<S.lv.level.length
   .rw[h.ll]at hl;unfold Sto.n;omega
   .rw[List.getElem?_eq_none (by omega)]at h0;simp at h0
  .rw[if_neg hv]at h0;omega
 .intro hv;exact(h.C6.od.rng v hv.1 hv.2).1
theorem SI.ib(h:SI S){d:B.Nd}(hd:tbl S.po i=some d):0<i/\i<2000000:=by have:=h.sc.cn.dom hd;have:=h.sc.po.len;have:=h.sc.po.room;omega
structure Ni(S S':Sto):Prop where
 tbl:∀i d,tbl S.po i=some d->tbl S'.po i=some d
 rf:∀j,rfA S'.po j=rfA S.po j
 lv:S'.lv=S.lv
 tb:S'.tb=S.tb
 bl:S'.bl=S.bl
 bp:S'.bp=S.bp
 room:S'.po.room=S.po.room
 cn:∀i d,YtcbkbpjlbmalmaaGreatDoor.tbl S.po i=some d->cnA S'.cn i=cnA S.cn i
theorem Ni.refl:Ni S S:=⟨λ_ _ h=>h,λ_=>rfl,rfl,rfl,rfl,rfl,rfl,λ_ _ _=>rfl⟩
variable {S':Sto}
theorem Ni.trans{S'':Sto}(h:Ni S S')(k:Ni S' S''):Ni S S'':=⟨λi d hd=>k.tbl i d (h.tbl i d hd),λj=>(k.rf j).trans (h.rf j),k.lv.trans h.lv,k.tb.trans h.tb,k.bl.trans h.bl,k.bp.trans h.bp,k.room.trans h.room,λi d hd=>(k.cn i d (h.tbl i d hd)).trans (h.cn i d hd)⟩
theorem Ni.n(h:Ni S S'):S'.n=S.n:=by unfold Sto.n;rw[h.tb]
theorem Ni.den(h:Ni S S')(hI:SI S){e:Int}(he:B.Ok (YtcbkbpjlbmalmaaGreatDoor.tbl S.po) e):B.den (YtcbkbpjlbmalmaaGreatDoor.tbl S'.po) e=B.den (YtcbkbpjlbmalmaaGreatDoor.tbl S.po) e:=hI.C6.Atf Sto.P4 h.tbl he
variable {lo hi:Int}
theorem Axy{n:Int}{lv:Int->Int}{N:B.Tb}(g:B.Good n lv N)(hn:0<=n)(hi0:0<i)(hd:N i=some ⟨v,B.fl lo hi,B.fl hi hi⟩)(hlo:B.Ok N lo)(hhi:B.Ok N hi):B.Ok N (B.fl (2*i) hi)/\B.den N (B.fl (2*i) hi)=(λa=>if a v=true then B.den N hi a else B.den N lo a)/\B.el n lv N (B.fl (2*i) hi)=lv v:=by
 have h2:2*i/2=i:=by omega
 have hok:B.Ok N (2*i):=⟨by omega,.inr (by rw[h2];exact⟨_,hd⟩)⟩
 refine⟨hok.fl,?_,?_⟩
 .funext a;rw[B.N6 hok,g.N5 hn (e:=2*i) (by omega) (by rw[h2];exact hd)];have:¬(2*i%2=1):=by omega
  simp only[this,decide_false,Bool.false_xor];by_cases hv:a v=true
  .simp only[hv,if_true];rw[B.N6 hhi];simp
  .simp only[hv];rw[if_neg (by simp),if_neg (by simp),B.N6 hlo];simp
 .rw[B.Qv,B.Bz (by omega) (by rw[h2];exact hd)]
theorem SI.add(h:SI S)(ha:Arf S v lo hi i S')(hc:SC S' (rfA S.po))(hv:0<=v/\v<S.n)(hlo:B.Ok (tbl S.po) lo)(hhi:B.Ok (tbl S.po) hi)(h1:lvA S.lv v<B.el S.n (lvA S.lv) (tbl S.po) lo)(h2:lvA S.lv v<B.el S.n (lvA S.lv) (tbl S.po) hi)(hne:lo≠hi)(hreg:hi%2=0)(hnew:Ac (S.ta v.toNat).ids (⟨lo,hi⟩:K2)=none):SI S'/\Ni S S':=by
 have hv':v.toNat<S.tb.length:=by have:=hv.2;unfold Sto.n at this;omega
 have hvv:((v.toNat:Nat):Int)=v:=by omega
 have hn:S'.n=S.n:=by unfold Sto.n;rw[ha.tb]
 have hrf:rfA S'.po=rfA S.po:=funext ha.rf;refine⟨⟨by rw[hrf];exact hc,?_,?_,?_,?_,?_,?_,?_⟩,⟨λj d hj=>?_,ha.rf,ha.lv,ha.tb,ha.bl,ha.bp,ha.room,λj d hj=>?_⟩⟩
 .rw[hn,ha.lv,ha.tbl];refine h.C6.add ha.pos ha.old hv.1 hv.2 hlo hhi h1 h2 hne hreg λj hj=>?_;have:=(h.tg v.toNat hv' lo hi j).2 (by rw[hvv];exact hj);rw[hnew]at this;cases this
 .rw[ha.lv,ha.tb];exact h.vl
 .rw[ha.lv,ha.tb];exact h.ll
 .rw[ha.lv,hn];exact h.inv
 .intro w hw;rw[ha.tb]at hw;rw[ha.ta];split
  .exact Pm (h.tn w hw) _ _
  .exact h.tn w hw
 .intro w hw lo' hi' j;rw[ha.tb]at hw;rw[ha.ta,ha.tbl];by_cases e:w=v.toNat
  .subst e;rw[if_pos rfl];simp only;rw[D4];by_cases ek:(⟨lo',hi'⟩:K2)=⟨lo,hi⟩
   .rw[if_pos ek];obtain⟨rfl,rfl⟩:lo'=lo/\hi'=hi:=by injection ek with a b;exact⟨a,b⟩
    constructor
    .intro hj;obtain rfl:i=j:=by injection hj
     rw[hvv];exact if_pos rfl
    .intro hj;unfold B.Oa at hj;split at hj
     .rename_i e;rw[e]
     .rw[<-h.tg v.toNat hv',hnew]at hj;cases hj
   .rw[if_neg ek,h.tg v.toNat hv'];unfold B.Oa;split
    .rename_i e;subst e;rw[ha.old];constructor
     .intro hj;cases hj
     .intro hj;injection hj with hj
      injection hj with _ a b
      exact absurd (by rw[a,b]) ek
    .rfl
  .rw[if_neg e,h.tg w hw];unfold B.Oa;split
   .rename_i e2;subst e2;rw[ha.old];constructor
    .intro hj;cases hj
    .intro hj;injection hj with hj
     injection hj with a _ _
     omega
   .rfl
 .rw[hrf];exact h.rf
 .rw[ha.tbl];exact B.Acv ha.old j d hj
 .rw[ha.cn,if_neg];intro e;rw[e,ha.old]at hj;cases hj
theorem Ane{b:Nat}{H:HY}{X:PX}{Q:Int×Int×Unit->UU}(hS:Dc H b S)(hI:SI S)(h9:¬(0<=v/\v<S.n)->Q (0,9,()) () H)(h8:¬(B.Ok (tbl S.po) lo/\B.Ok (tbl S.po) hi)->Q (0,8,()) () H)(hx:0<=v->v<S.n->B.Ok (tbl S.po) lo->B.Ok (tbl S.po) hi->¬(lvA S.lv v<B.el S.n (lvA S.lv) (tbl S.po) lo/\lvA S.lv v<B.el S.n (lvA S.lv) (tbl S.po) hi)->Q (0,10,()) () H)(h7:S.po.many=S.po.room->Q (0,7,()) () H)(h:∀e S' H',0<=v->v<S.n->B.Ok (tbl S.po) lo->B.Ok (tbl S.po) hi->lvA S.lv v<B.el S.n (lvA S.lv) (tbl S.po) lo->lvA S.lv v<B.el S.n (lvA S.lv) (tbl S.po) hi->Dc H' b S'->SI S'->Ni S S'->FrE b S H H'->B.Ok (tbl S'.po) e->B.den (tbl S'.po) e=(λa=>if a v=true then B.den (tbl S.po) hi a else B.den (tbl S.po) lo a)->lvA S.lv v<=B.el S.n (lvA S.lv) (tbl S'.po) e->(∀i d,tbl S'.po i=some d->tbl S.po i=some d∨(i=e/2/\d.v=v))->Q (e,0,()) () H'):Wp Y0 Iu Gl (some b,v,lo,hi,()) H Q X:=by
 refine Adm _ _ _ _ _ _ _ ?_;unfold T4;have hP:=hI.sc.po;refine⟨λh=>absurd h (by simp),λ_=>Ke hS ⟨λhl=>h9 λhv=>?_,λhl=>?_⟩⟩
 .have:=hI.lvl.2 hv;have hl':lvA S.lv v<0:=hl;omega
 have hl':¬lvA S.lv v<0:=hl;have hv:=(hI.lvl (v:=v)).1 (by omega);have hlv:=(hI.C6.od.rng v hv.1 hv.2).2;refine Pz hS hP λt ht=>⟨λhn=>h8 λho=>hn (ht.2 ho.1),λhn=>?_⟩
 have hlo:=ht.1 (Classical.not_not.1 hn);refine Pz hS hP λt ht=>⟨λhn=>h8 λho=>hn (ht.2 ho.2),λhn=>?_⟩
 have hhi:=ht.1 (Classical.not_not.1 hn);refine Ke hS (We hS hP hlo hlv ⟨λhn=>hx hv.1 hv.2 hlo hhi λho=>hn (decide_eq_true ho.1),λhn=>?_⟩);have h1:lvA S.lv v<B.el S.n (lvA S.lv) (tbl S.po) lo:=of_decide_eq_true (Classical.not_not.1 hn);refine Ke hS (We hS hP hhi hlv ⟨λhn=>hx hv.1 hv.2 hlo hhi λho=>hn (decide_eq_true ho.2),λhn=>?_⟩);have h2:lvA S.lv v<B.el S.n (lvA S.lv) (tbl S.po) hi:=of_decide_eq_true (Classical.not_not.1 hn);refine⟨λe=>?_,λhne=>⟨b,rfl,S.ob,hS.st,λ_=>⟨λ_=>hv.1,?_⟩⟩⟩
 .subst e;refine h lo S H hv.1 hv.2 hlo hhi h1 h2 hS hI Ni.refl FrE.refl hlo (by funext a;simp) (by omega) (λi d hd=>.inl hd)
 have hv':v.toNat<S.tb.length:=by have:=hv.2;unfold Sto.n at this;omega
 have hvv:((v.toNat:Nat):Int)=v:=by omega
 have hob:v.toNat<S.ob.tables.length:=by simpa [Sto.ob] using hv'
 have hxx:S.ob.tables[v.toNat]'hob=some S.tb[v.toNat]:=by simp [Sto.ob]
 refine⟨hob,hob,rfl,?_⟩;rw[hxx];have hb:∀e:Int,A7 e (Bt hi)=B.fl e hi:=λe=>Pl hhi.1;rw[hb lo,hb hi];refine Wd (hS.ta v.toNat hv') (λhnew=>⟨λ_=>?_,λh=>absurd (by simp) h⟩) λi hi'=>⟨λh=>absurd rfl h,λ_=>⟨λh=>absurd rfl h,λ_=>?_⟩⟩
 .refine Aba hS hI.sc hI.kids (λ_=>Af6) hv hnew (λhm=>⟨λ_=>h7 hm,λh=>absurd (by simp) h⟩) λi S' H' hroom ha s1 c1 f1=>⟨λh=>absurd rfl h,λ_=>⟨λ_=>?_,?_⟩⟩
  .have:=ha.lt;show i<=_;omega
  .obtain⟨hI',hE⟩:=hI.add ha c1 hv hlo.fl hhi.fl (by rw[B.Qv];exact h1) (by rw[B.Qv];exact h2) (λe=>hne (B.Aaf e)) B.Aeg hnew;have hd:tbl S'.po i=some ⟨v,B.fl lo hi,B.fl hi hi⟩:=by rw[ha.tbl];exact B.Ad4
   obtain⟨k1,k2,k3⟩:=Axy hI'.C6 Sto.P4 ha.pos hd (hlo.ext hE.tbl) (hhi.ext hE.tbl);have hpos:=ha.pos;have:A7 (2*max i 0) (Bt hi)=B.fl (2*i) hi:=by rw[hb,show max i 0=i by omega]
   show Q (A7 (2*max i 0) (Bt hi),0,()) () H';rw[this];refine h _ S' H' hv.1 hv.2 hlo hhi h1 h2 s1 hI' hE f1 k1 ?_ ?_ ?_
   .rw[k2,hE.den hI hlo,hE.den hI hhi]
   .rw[hE.n,hE.lv]at k3;rw[k3];exact Int.le_refl _
   .intro j d' hj;rw[ha.tbl]at hj;unfold B.Oa at hj;split at hj
    .rename_i e';cases hj;refine .inr ⟨?_,rfl⟩;rw[e',B.Aqz];omega
    .exact .inl hj
 .have hd:=(hI.tg v.toNat hv' _ _ _).1 hi';rw[hvv]at hd;have hpos:=hI.ib hd;obtain⟨k1,k2,k3⟩:=Axy hI.C6 Sto.P4 hpos.1 hd hlo hhi;refine⟨λ_=>by show i<=_;omega,?_⟩;have:A7 (2*max i 0) (Bt hi)=B.fl (2*i) hi:=by rw[hb,show max i 0=i by omega]
  show Q (A7 (2*max i 0) (Bt hi),0,()) () H;rw[this];exact h _ S H hv.1 hv.2 hlo hhi h1 h2 hS hI Ni.refl FrE.refl k1 k2 (by rw[k3];exact Int.le_refl _) (λi d hd=>.inl hd)
end
section
structure Amx(S S':Sto)(g:Int->Int):Prop where
 tbl:tbl S'.po=tbl S.po
 rf:∀j,j≠0->rfA S'.po j=g j
 lv:S'.lv=S.lv
 tb:S'.tb=S.tb
 bl:S'.bl=S.bl
 bp:S'.bp=S.bp
 ta:S'.ta=S.ta
 room:S'.po.room=S.po.room
 many:S'.po.many=S.po.many
variable {S:Sto}
theorem Amx.n{S':Sto}{g:Int->Int}(h:Amx S S' g):S'.n=S.n:=by unfold Sto.n;rw[h.tb]
theorem Ar7{p:Av}(h:Iw p):rfA p 0=0:=by unfold rfA;rw[An1 h]
theorem Amx.si{S':Sto}{g:Int->Int}(k:Amx S S' g)(h:SI S)(hc:SC S' g)(hg:∀j,0<=g j):SI S':=by
 refine⟨⟨hc.po,hc.cn.congr λi hi=>(k.rf i (by omega)).symm,hc.ln,hc.dead⟩,?_,?_,?_,?_,?_,?_,?_⟩
 .rw[k.n,k.lv,k.tbl];exact h.C6
 .rw[k.lv,k.tb];exact h.vl
 .rw[k.lv,k.tb];exact h.ll
 .rw[k.lv,k.n];exact h.inv
 .rw[k.tb,k.ta];exact h.tn
 .rw[k.tb,k.ta,k.tbl];exact h.tg
 .intro i;by_cases e:i=0
  .rw[e,Ar7 hc.po];exact Int.le_refl _
  .rw[k.rf i e];exact hg i
theorem Ans{p p':Av}{i:Int}{n:Am}{x:Int}(hn:pNd p i=some n)(h:∀j,pNd p' j=if j=i then some {n with Refs:=n.Refs+x} else pNd p j):tbl p'=tbl p/\∀j,rfA p' j=if j=i then rfA p j+x else rfA p j:=by
 constructor
 .funext j;unfold tbl;rw[h];by_cases e:j=i
  .rw[if_pos e,e,hn];rfl
  .rw[if_neg e]
 .intro j;unfold rfA;rw[h];by_cases e:j=i
  .rw[if_pos e,if_pos e,e,hn]
  .rw[if_neg e,if_neg e]
def Sto.wp(S:Sto)(po:Av):Sto:={S with po:=po}
theorem Ain{b:Nat}{f:Int}{H:HY}{X:PX}{Q:Int×Unit->UU}(hS:Dc H b S)(hI:SI S)(hb:∀i,rfA S.po i<1152921504606846976)(h8:¬B.Ok (tbl S.po) f->Q (8,()) () H)(h:∀S' H',B.Ok (tbl S.po) f->Dc H' b S'->SI S'->Amx S S' (λi=>rfA S.po i+B.dl f i)->FrE b S H H'->Q (0,()) () H'):Wp Y0 Mo I8 (some b,f,()) H Q X:=by
 refine Aab _ _ _ _ _ ?_;unfold Rl;have hP:=hI.sc.po;refine⟨λh=>absurd h (by simp),λ_=>Pz hS hP λt ht=>⟨λhn=>h8 λho=>hn (ht.2 ho),λhn=>?_⟩⟩;have hf:=ht.1 (Classical.not_not.1 hn);rw[Pk hf.1];have key:Wp Y0 Bf Bc (some S.bp,f/2,()) H (λ(b_1:Am×Bool×Unit)io H'=>
   (b_1.2.1=true->InK .i64 b_1.1.Refs->InK .i64 (b_1.1.Refs+1)/\∃(x:Aa),H' b=some (Ob.st A8 x)/\{levels:=x.levels,Bs:=x.Bs,tables:=x.tables,counts:=x.counts,dead:=x.dead:Aa}=x/\
    Wp Y0 Cy Co (x.Bs,{ID:=b_1.1.ID,Var:=b_1.1.Var,Lo:=b_1.1.Lo,Hi:=b_1.1.Hi,Refs:=b_1.1.Refs+1:Am},()) H' (λ(_:Int×Unit)io H'=>Wp Y0 B9 B3 (some b,f,()) H' (λ(_ io:Unit)(H':HY)=>Q (0,()) () H') X) X)/\
   (¬b_1.2.1=true->Q (0,()) () H')) X:=by
  refine Kj hS.po hP (λhn=>⟨λh=>absurd h (by simp),λ_=>?_⟩) λn hn=>⟨λ_ _=>?_,λh=>absurd rfl h⟩
  .have h0:f/2=0:=by
    rcases hf.2 with h|⟨d,hd⟩
    .exact h
    .obtain⟨m,hm,_⟩:=Kd hd;rw[hn]at hm;cases hm
   refine h S H hf hS hI ⟨rfl,λj hj=>?_,rfl,rfl,rfl,rfl,rfl,rfl,rfl⟩ FrE.refl;rw[B.Qw (by omega)];omega
  .have hid:=hP.id _ _ hn
   have h0:=(hP.tk (i:=f/2) (by
    unfold pNd at hn;split at hn
    .rename_i h;exact h
    .cases hn)).1
   have hR:rfA S.po (f/2)=n.Refs:=by unfold rfA;rw[hn]
   have hb1:=hb (f/2)
   have hb2:=hI.rf (f/2)
   rw[hR]at hb1 hb2
   refine⟨Bk.2 (by show _<=n.Refs+1/\n.Refs+1<=_;omega),S.ob,hS.st,rfl,?_⟩
   refine Wo hS.po hP (λh=>?_) λm x' hm hx' hj hmany hroom hlen=>?_
   .have h':pNd S.po n.ID=none:=h
    rw[hid,hn]at h';cases h'
   .obtain⟨t1,t2⟩:=Ans (x:=1) hn λj=>by rw[hj];show (if j=n.ID then _ else _)=_;rw[hid]
    obtain⟨s1,f1⟩:=hS.Awn x'
    have hC:SC (S.wp x') (rfA S.po):=by
     refine⟨hx',?_,?_,?_⟩
     .show B.Cn (tbl x') x'.at_.length (cnA S.cn) _;rw[t1,hlen];exact hI.sc.cn
     .show ∀i d,tbl x' i=some d->_;rw[t1];exact hI.sc.ln
     .show S.dead=B.sm x'.at_.length (B.zr (tbl x') (cnA S.cn));rw[t1,hlen];exact hI.sc.dead
    have hD:=hI.C6.dag
    rw[<-t1]at hD
    refine Sv (S:=S.wp x') (S.n.toNat+1) hD (λh2=>?_) s1 hC ?_ (λi d _=>?_) λcn dead H' s2 c2 _ f2=>?_
    .obtain⟨d,hd⟩:=hf.2.resolve_left h2
     rw[<-t1]at hd
     have:=hD.rng hd
     omega
    .show B.Ok (tbl x') f;rw[t1];exact hf
    .have:=hb i;have:=@B.Ku f i;omega
    .have hk:Amx S ((S.wp x').wc cn dead) (λi=>rfA S.po i+B.dl f i):=⟨t1,λj hj=>by
      show rfA x' j=_;rw[t2];by_cases e:j=f/2
      .rw[if_pos e,e,B.Lj]
      .rw[if_neg e,B.Qw e];omega,rfl,rfl,rfl,rfl,rfl,hroom,hmany⟩
     exact h _ H' hf s2 (hk.si hI c2 λj=>by have:=hI.rf j;have:=@B.Ku f j;omega) hk (f1.trans f2 rfl rfl rfl)
 exact⟨b,rfl,⟨S.ob,hS.st,⟨rfl,key⟩,rfl,key⟩,S.ob,hS.st,rfl,key⟩
theorem Aio{b:Nat}{f:Int}{H:HY}{X:PX}{Q:Int×Unit->UU}(hS:Dc H b S)(hI:SI S)(hb:∀i,rfA S.po i<1152921504606846976)(h8:¬B.Ok (tbl S.po) f->Q (8,()) () H)(h0:B.Ok (tbl S.po) f->f/2=0->Q (0,()) () H)(h5:B.Ok (tbl S.po) f->f/2≠0->rfA S.po (f/2)=0->Q (5,()) () H)(h:∀S' H',B.Ok (tbl S.po) f->f/2≠0->0<rfA S.po (f/2)->Dc H' b S'->SI S'->Amx S S' (λi=>rfA S.po i-B.dl f i)->FrE b S H H'->Q (0,()) () H'):Wp Y0 Mp I9 (some b,f,()) H Q X:=by
 refine Aac _ _ _ _ _ ?_;unfold Rm;have hP:=hI.sc.po;refine⟨λh=>absurd h (by simp),λ_=>Pz hS hP λt ht=>⟨λhn=>h8 λho=>hn (ht.2 ho),λhn=>?_⟩⟩;have hf:=ht.1 (Classical.not_not.1 hn);rw[Pk hf.1];have key:Wp Y0 Bf Bc (some S.bp,f/2,()) H (λ(b_1:Am×Bool×Unit)io H'=>
   (¬b_1.2.1=true->Q (0,()) () H')/\(¬¬b_1.2.1=true->(b_1.1.Refs=(0:Int)->Q (5,()) () H')/\(¬b_1.1.Refs=(0:Int)->InK .i64 b_1.1.Refs->InK .i64 (b_1.1.Refs-1)/\∃(x:Aa),H' b=some (Ob.st A8 x)/\{levels:=x.levels,Bs:=x.Bs,tables:=x.tables,counts:=x.counts,dead:=x.dead:Aa}=x/\
    Wp Y0 Cy Co (x.Bs,{ID:=b_1.1.ID,Var:=b_1.1.Var,Lo:=b_1.1.Lo,Hi:=b_1.1.Hi,Refs:=b_1.1.Refs-1:Am},()) H' (λ(_:Int×Unit)io H'=>Wp Y0 Ca B4 (some b,f,()) H' (λ(_ io:Unit)(H':HY)=>Q (0,()) () H') X) X))) X:=by
  refine Kj hS.po hP (λhn=>⟨λ_=>?_,λh=>absurd (by simp) h⟩) λn hn=>⟨λh=>absurd rfl h,λ_=>⟨λhz=>?_,λhz _=>?_⟩⟩
  .refine h0 hf ?_
   rcases hf.2 with h|⟨d,hd⟩
   .exact h
   .obtain⟨m,hm,_⟩:=Kd hd;rw[hn]at hm;cases hm
  .refine h5 hf (λe=>by rw[e,An1 hP]at hn;cases hn) ?_
   unfold rfA;rw[hn];exact hz
  .have hid:=hP.id _ _ hn
   have hne:f/2≠0:=λe=>by rw[e,An1 hP]at hn;cases hn
   have hR:rfA S.po (f/2)=n.Refs:=by unfold rfA;rw[hn]
   have hb1:=hb (f/2)
   have hb2:=hI.rf (f/2)
   rw[hR]at hb1 hb2
   have hz':¬n.Refs=0:=hz
   refine⟨Bk.2 (by show _<=n.Refs-1/\n.Refs-1<=_;omega),S.ob,hS.st,rfl,?_⟩
   refine Wo hS.po hP (λh=>?_) λm x' hm hx' hj hmany hroom hlen=>?_
   .have h':pNd S.po n.ID=none:=h
    rw[hid,hn]at h';cases h'
   .obtain⟨t1,t2⟩:=Ans (x:=-1) hn λj=>by rw[hj];show (if j=n.ID then _ else _)=_;rw[hid];rfl
    obtain⟨s1,f1⟩:=hS.Awn x'
    have hC:SC (S.wp x') (rfA S.po):=by
     refine⟨hx',?_,?_,?_⟩
     .show B.Cn (tbl x') x'.at_.length (cnA S.cn) _;rw[t1,hlen];exact hI.sc.cn
     .show ∀i d,tbl x' i=some d->_;rw[t1];exact hI.sc.ln
     .show S.dead=B.sm x'.at_.length (B.zr (tbl x') (cnA S.cn));rw[t1,hlen];exact hI.sc.dead
    have hD:=hI.C6.dag
    rw[<-t1]at hD
    have hpos:∀i,B.dl f i<=rfA S.po i:=λi=>by
     by_cases e:i=f/2
     .rw[e,B.Lj,hR];omega
     .rw[B.Qw e];exact hI.rf i
    refine Sw (S:=S.wp x') (S.n.toNat+1) hD (λh2=>?_) s1 hC ?_ (λi d _=>hpos i) λcn dead H' s2 c2 f2=>?_
    .obtain⟨d,hd⟩:=hf.2.resolve_left h2
     rw[<-t1]at hd
     have:=hD.rng hd
     omega
    .show B.Ok (tbl x') f;rw[t1];exact hf
    .have hk:Amx S ((S.wp x').wc cn dead) (λi=>rfA S.po i-B.dl f i):=⟨t1,λj hj=>by
      show rfA x' j=_;rw[t2];by_cases e:j=f/2
      .rw[if_pos e,e,B.Lj];omega
      .rw[if_neg e,B.Qw e];omega,rfl,rfl,rfl,rfl,rfl,hroom,hmany⟩
     exact h _ H' hf hne (by omega) s2 (hk.si hI c2 λj=>by have:=hpos j;omega) hk (f1.trans f2 rfl rfl rfl)
 exact⟨b,rfl,⟨S.ob,hS.st,⟨rfl,key⟩,rfl,key⟩,S.ob,hS.st,rfl,key⟩
end
end Go.Proofs.YtcbkbpjlbmalmaaGreatDoor
