/-
  Questions about handles; variables; handles copied, negated, dropped. (Merged by program out of 12 texts.)
-/
import Derived.Test.YtcbkbpjlbmalmaaGreatDoorpak
namespace Go.Proofs.YtcbkbpjlbmalmaaGreatDoor
open Go Go.X Go.Y
section
section
variable {κ β:Type} [DecidableEq κ]
theorem KZ{k:κ}{v:β}:∀{m:List (κ×β)},Ae m k=none->(BL m k v).length=m.length+1
 | [],_=>rfl
 |p::m,h=>by
  have h:(if p.1=k then some p.2 else Ae m k)=none:=h;split at h
  .cases h
  .rename_i hp;unfold BL;rw[if_neg hp,List.length_cons,KZ h,List.length_cons]
theorem V3{k:κ}{v:β}:∀{m:List (κ×β)}{p:κ×β},p∈BL m k v->p∈m∨p.2=v
 | [],p,h=>by have h:p∈[(k,v)]:=h;rw[List.mem_singleton]at h;right;rw[h]
 |q::m,p,h=>by
  unfold BL at h;split at h
  .rcases List.mem_cons.1 h with rfl|h
   .exact .inr rfl
   .exact .inl (List.mem_cons_of_mem _ h)
  .rcases List.mem_cons.1 h with rfl|h
   .exact .inl List.mem_cons_self
   .exact(V3 h).imp (List.mem_cons_of_mem _) id
end
def QS(p:Int×Int):K2:=⟨B.fl p.1 p.2,B.fl p.2 p.2⟩
def Yf(t:AB):List (Int×Int):=[(t.ll,t.hl),(t.lh,t.hh)]
variable {H:HY} {X:PX} {b:Nat} {S:B4} {x:Int}
theorem UM{m:List (K2×Bool)}{p:Int×Int}{N1 N2:HP}(hS:BX H b S)(hx:x.toNat<S.tb.length)(h:x.toNat<S.ob.tables.length)(hp:0<=p.2)(hT:∀q∈m,q.2=true)(h1:(p.1≠p.2->Ae (S.ta x.toNat).ids (QS p)=none->QS p∈m.map (·.1))->N1 H)(h2:Ae m (QS p)=none->N2 H):Wp Y0 DG CY (S.ob.tables[x.toNat]'h,A8 p.1 (Bc p.2),A8 p.2 (Bc p.2),()) H (λb _ H'=>(A8 p.1 (Bc p.2)=A8 p.2 (Bc p.2)->N1 H')/\(¬A8 p.1 (Bc p.2)=A8 p.2 (Bc p.2)->(b.2.1=true->N1 H')/\(¬b.2.1=true->((Ae m (⟨A8 p.1 (Bc p.2),A8 p.2 (Bc p.2)⟩:K2)).getD false=true->N1 H')/\(¬(Ae m (⟨A8 p.1 (Bc p.2),A8 p.2 (Bc p.2)⟩:K2)).getD false=true->N2 H')))) X:=by
 have hob:S.ob.tables[x.toNat]'h=some S.tb[x.toNat]:=by simp [B4.ob]
 have hb:∀e:Int,A8 e (Bc p.2)=B.fl e p.2:=λe=>J4 hp;rw[hob,hb,hb];have hk:(⟨B.fl p.1 p.2,B.fl p.2 p.2⟩:K2)=QS p:=rfl;rw[hk];refine On (hS.ta x.toNat hx) (λhn=>⟨λe=>h1 λhne=>absurd (B.QU e) hne,λ_=>⟨λh=>(by cases h),λ_=>⟨λhm=>h1 λ_ _=>?_,λhm=>h2 ?_⟩⟩⟩) λi hi=>⟨λe=>h1 λhne=>absurd (B.QU e) hne,λ_=>⟨λ_=>h1 λ_ hn=>?_,λh=>absurd rfl h⟩⟩
 .cases e:Ae m (QS p) with
  |none=>rw[e]at hm;cases hm
  |some v=>exact List.mem_map_of_mem (f:=Prod.fst) (I9 e)
 .cases e:Ae m (QS p) with
  |none=>rfl
  |some v=>
   have:=hT _ (I9 e);simp only at this;subst this;rw[e]at hm;exact absurd rfl hm
 .rw[show Ae (S.ta x.toNat).ids (QS p)=some i from hi]at hn;cases hn
theorem UY{l:List AB}{Q:Int×Unit->UU}(hS:BX H b S)(hx:0<=x/\x<S.n)(hl:∀t∈l,∀p∈Yf t,0<=p.2)(hlen:l.length<=2000000)(h:∀K:List K2,K.Nodup->K.length<=2*l.length->(∀t∈l,∀p∈Yf t,p.1≠p.2->Ae (S.ta x.toNat).ids (QS p)=none->QS p∈K)->Q (K.length,()) () H):Wp Y0 Hh EV (some b,x,l,()) H Q X:=by
 apply P9;unfold Kk;have hx':x.toNat<S.tb.length:=by have:=hx.2;unfold B4.n at this;omega
 have hob:∀h,S.ob.tables[x.toNat]'h=some S.tb[x.toNat]:=λh=>by simp [B4.ob]
 let W (m:List (K2×Bool)) (c:Nat):Prop:=Pq m/\c=m.length/\∀p∈m,p.2=true;let G (m:List (K2×Bool)) (p:Int×Int):Prop:=p.1≠p.2->Ae (S.ta x.toNat).ids (QS p)=none->QS p∈m.map (·.1);have gmono:∀{m:List (K2×Bool)}{k:K2}{p:Int×Int},G m p->G (BL m k true) p:=λhg h1 h2=>(Tu _ _ _ _).2 (.inl (hg h1 h2));intro _;refine⟨λn z H'=>H'=H/\n=l.length-z.2.2.1/\z.2.2.1<=l.length/\W z.1 z.2.1/\z.2.1<=2*z.2.2.1/\∀j(_:j<l.length),j<z.2.2.1->∀p∈Yf l[j],G z.1 p,⟨_,rfl,rfl,Nat.zero_le _,⟨List.nodup_nil,rfl,λp hp=>absurd hp List.not_mem_nil⟩,Nat.le_refl _,λj _ hj=>absurd hj (Nat.not_lt_zero j)⟩,?_⟩;rintro n ⟨m,c,k,_⟩ H' ⟨rfl,hn0,hk0,hW0,hc0,hG0⟩;have hn:n=l.length-k:=hn0;have hk:k<=l.length:=hk0;have hW:W m c:=hW0;have hc:c<=2*k:=hc0;have hG:∀j(_:j<l.length),j<k->∀p∈Yf l[j],G m p:=hG0;clear hn0 hk0 hW0 hc0 hG0;refine⟨λhkl _=>?_,λhkl=>?_⟩
 .have hkl':k<l.length:=hkl;have hpos:=hl l[k] (List.getElem_mem hkl');refine⟨hkl',λ_=>⟨λn1 z H''=>H''=H'/\n1=2-z.2.2.2.1/\z.2.2.2.1<=2/\z.2.2.1=(Yf l[k]).map (λp=>(⟨p.1,p.2⟩:K2))/\W z.1 z.2.1/\z.2.1<=2*k+z.2.2.2.1/\(∀j(_:j<l.length),j<k->∀p∈Yf l[j],G z.1 p)/\∀p∈(Yf l[k]).take z.2.2.2.1,G z.1 p,⟨2,rfl,rfl,Nat.zero_le _,rfl,hW,hc,hG,λp hp=>absurd hp List.not_mem_nil⟩,?_⟩⟩;rintro n1 ⟨m1,c1,ks,j,_⟩ H'' ⟨rfl,hn1',hj1',hks',hW1',hc1',hG1',hT1'⟩;have hn1:n1=2-j:=hn1';have hj1:j<=2:=hj1';have hks:ks=(Yf l[k]).map (λp=>(⟨p.1,p.2⟩:K2)):=hks';have hW1:W m1 c1:=hW1';have hc1:c1<=2*k+j:=hc1';have hG1:∀j(_:j<l.length),j<k->∀p∈Yf l[j],G m1 p:=hG1';have hT1:∀p∈(Yf l[k]).take j,G m1 p:=hT1';clear hn1' hj1' hks' hW1' hc1' hG1' hT1';subst hks;have next:∀m2 c2,W m2 c2->c2<=2*k+(j+1)->(∀p,G m1 p->G m2 p)->(hj:j<2)->G m2 ((Yf l[k])[j]'hj)->j+1<=9223372036854775807/\∃m',m'<n1/\(H''=H''/\m'=2-(j+1)/\j+1<=2/\(Yf l[k]).map (λp=>(⟨p.1,p.2⟩:K2))=(Yf l[k]).map (λp=>(⟨p.1,p.2⟩:K2))/\W m2 c2/\c2<=2*k+(j+1)/\(∀j(_:j<l.length),j<k->∀p∈Yf l[j],G m2 p)/\∀p∈(Yf l[k]).take (j+1),G m2 p):=λm2 c2 hW2 hc2 hGG hj hg=>by
   refine⟨by show j+1<=_;omega,2-(j+1),by omega,rfl,rfl,by omega,rfl,hW2,hc2,λi hi hik p hp=>hGG p (hG1 i hi hik p hp),λp hp=>?_⟩;rw[List.take_succ_eq_append_getElem (by exact hj)]at hp;rcases List.mem_append.1 hp with hp|hp
   .exact hGG p (hT1 p hp)
   .rw[List.mem_singleton]at hp;rw[hp];exact hg
  have new:∀(κ:K2)p,κ=QS p->Ae m1 (QS p)=none->W (BL m1 κ true) (c1+1)/\G (BL m1 κ true) p:=fun κ p e hn=>by subst e;refine⟨⟨J5 hW1.1 _ _,by rw[KZ hn,hW1.2.1],λq hq=>(V3 hq).elim (hW1.2.2 q) id⟩,λ_ _=>(Tu _ _ _ _).2 (.inr rfl)⟩
  refine⟨λhjl _=>?_,λhjl=>?_⟩
  .have hj2:j<2:=hjl;obtain rfl|rfl:j=0∨j=1:=by omega
   .refine⟨by show 0<2;decide,by show 0<2;decide,b,rfl,S.ob,hS.st,λ_=>⟨λ_=>hx.1,by simpa [B4.ob] using hx',by simpa [B4.ob] using hx',rfl,?_⟩⟩;refine UM (p:=(l[k].ll,l[k].hl)) hS hx' _ (hpos (l[k].ll,l[k].hl) List.mem_cons_self) hW1.2.2 (λhg=>next m1 c1 hW1 (by omega) (λ_ h=>h) hj2 hg) λhn=>⟨by show c1+1<=_;omega,?_⟩
    have w:=new (⟨A8 l[k].ll (Bc l[k].hl),A8 l[k].hl (Bc l[k].hl)⟩:K2) (l[k].ll,l[k].hl) (by unfold QS;simp only[J4 (hpos (l[k].ll,l[k].hl) List.mem_cons_self)]) hn;exact next (BL m1 (⟨A8 l[k].ll (Bc l[k].hl),A8 l[k].hl (Bc l[k].hl)⟩:K2) true) (c1+1) w.1 (by omega) (λ_ h=>gmono h) hj2 w.2
   .refine⟨by show 1<2;decide,by show 1<2;decide,b,rfl,S.ob,hS.st,λ_=>⟨λ_=>hx.1,by simpa [B4.ob] using hx',by simpa [B4.ob] using hx',rfl,?_⟩⟩;refine UM (p:=(l[k].lh,l[k].hh)) hS hx' _ (hpos (l[k].lh,l[k].hh) (List.mem_cons_of_mem _ List.mem_cons_self)) hW1.2.2 (λhg=>next m1 c1 hW1 (by omega) (λ_ h=>h) hj2 hg) λhn=>⟨by show c1+1<=_;omega,?_⟩
    have w:=new (⟨A8 l[k].lh (Bc l[k].hh),A8 l[k].hh (Bc l[k].hh)⟩:K2) (l[k].lh,l[k].hh) (by unfold QS;simp only[J4 (hpos (l[k].lh,l[k].hh) (List.mem_cons_of_mem _ List.mem_cons_self))]) hn;exact next (BL m1 (⟨A8 l[k].lh (Bc l[k].hh),A8 l[k].hh (Bc l[k].hh)⟩:K2) true) (c1+1) w.1 (by omega) (λ_ h=>gmono h) hj2 w.2
  .have hj2:¬j<2:=hjl;have:j=2:=by omega
   subst this;refine⟨by show k+1<=_;omega,l.length-(k+1),by omega,rfl,rfl,by show k+1<=_;omega,hW1,by show c1<=2*(k+1);omega,λi hi hik p hp=>?_⟩;have hik:i<k+1:=hik;by_cases e:i=k
   .subst e;exact hT1 p hp
   .exact hG1 i hi (by omega) p hp
 .have hkl':¬k<l.length:=hkl;have hke:k=l.length:=by omega
  have hW1:(m.map (·.1)).Nodup:=hW.1;have:=h (m.map (·.1)) hW1 (by rw[List.length_map,<-hW.2.1];omega) λt ht p hp=>by obtain⟨j,hj,rfl⟩:=List.mem_iff_getElem.1 ht;exact hG j hj (by omega) p hp
  rw[List.length_map,<-hW.2.1]at this;exact this
theorem UZ{r:Int->Int}{lo hi:Int}{Q:Int×Unit->UU}(hS:BX H b S)(hC:SC S r)(hK:∀p d,A6 S.po p=some d->B.Ok (A6 S.po) d.lo/\B.Ok (A6 S.po) d.hi)(hr:∀i,A6 S.po i=none->r i=0)(hx:0<=x/\x<S.n)(hh:0<=hi)(hroom:lo≠hi->Ae (S.ta x.toNat).ids (QS (lo,hi))=none->S.po.many≠S.po.room)(hb:∀i,Ae (S.ta x.toNat).ids (QS (lo,hi))=some i->0<i/\i<2000000)(h0:lo=hi->Q (lo,()) () H)(h1:∀i,lo≠hi->Ae (S.ta x.toNat).ids (QS (lo,hi))=some i->Q (B.fl (2*i) hi,()) () H)(h2:∀i S' H',lo≠hi->Ae (S.ta x.toNat).ids (QS (lo,hi))=none->Afd S x (B.fl lo hi) (B.fl hi hi) i S'->BX H' b S'->SC S' r->NF b S H H'->Q (B.fl (2*i) hi,()) () H'):Wp Y0 C7 BZ (some b,x,lo,hi,()) H Q X:=by
 apply PC;unfold Kn;have hx':x.toNat<S.tb.length:=by have:=hx.2;unfold B4.n at this;omega
 have hob:S.ob.tables[x.toNat]'(by simpa [B4.ob] using hx')=some S.tb[x.toNat]:=by simp [B4.ob]
 have hbf:∀e:Int,A8 e (Bc hi)=B.fl e hi:=λe=>J4 hh;refine⟨h0,λhne=>⟨b,rfl,S.ob,hS.st,λ_=>⟨λ_=>hx.1,by simpa [B4.ob] using hx',by simpa [B4.ob] using hx',rfl,?_⟩⟩⟩;rw[hob];simp only[hbf];refine On (hS.ta x.toNat hx') (λhn=>⟨λ_=>?_,λh=>absurd (by simp) h⟩) λi hi'=>⟨λh=>absurd rfl h,λ_=>?_⟩
 .refine R1 hS hC hK hr hx hn (λhm=>absurd hm (hroom hne hn)) λi S' H' _ ha s1 c1 f1=>⟨λ_=>?_,?_⟩
  .have:=ha.lt;show i<=_;omega
  .have:=ha.pos;show Q (B.fl (2*max i 0) hi,()) () H';rw[show max i 0=i by omega];exact h2 i S' H' hne hn ha s1 c1 f1
 .have:=hb i hi';refine⟨λ_=>by show i<=_;omega,?_⟩;show Q (B.fl (2*max i 0) hi,()) () H;rw[show max i 0=i by omega];exact h1 i hne hi'
def swL(x:AF)(k:Nat)(a b:Int):AF:={vars:=(x.vars.set k b).set (k+1) a,level:=(x.level.set a.toNat ((k:Int)+1)).set b.toNat k}
theorem VA{c:Nat}{x:AF}{k:Nat}{a b:Int}{Q:Unit->UU}(hx:H c=some (.st CF x))(ha:x.vars[k]?=some a)(hb:x.vars[k+1]?=some b)(ha0:0<=a/\a.toNat<x.level.length)(hb0:0<=b/\b.toNat<x.level.length)(hl:x.vars.length<=64)(h:Q () () (Ac H c (.st CF (swL x k a b)))):Wp Y0 Hg EU (some c,(k:Int),()) H Q X:=by
 apply P8;unfold Kj;obtain⟨hk,ea⟩:=List.getElem?_eq_some_iff.1 ha;obtain⟨hk1,eb⟩:=List.getElem?_eq_some_iff.1 hb;have t0:((k:Int)).toNat=k:=by omega
 have t1:((k:Int)+1).toNat=k+1:=by omega
 have ik:Ag .i64 ((k:Int)+1):=AG.2 (by omega);subst ea eb;simp only[t0,t1,List.length_set];exact⟨c,rfl,x,hx,λ_=>⟨λ_=>by omega,hk,hk,λ_=>⟨ik,λ_=>⟨λ_=>by omega,hk1,hk1,λ_=>⟨ik,λ_=>⟨λ_=>by omega,hk,hk,λ_=>⟨λ_=>by omega,hk1,hk1,λ_=>⟨ik,λ_=>⟨λ_=>ha0.1,ha0.2,ha0.2,λ_=>⟨λ_=>hb0.1,hb0.2,hb0.2,h⟩⟩⟩⟩⟩⟩⟩⟩⟩⟩
end
section
structure Cx(S1:B4)(x y:Int)(L:List AB)(K:List K2):Prop where
 si:SI S1
 live:∀i d,A6 S1.po i=some d->0<FD S1.cn i
 hx:0<=x/\x<S1.n
 hy:0<=y/\y<S1.n
 PH:Dh S1.lv y=Dh S1.lv x+1
 nd:(L.map (·.n.ID)).Nodup
 te:∀t∈L,TnE S1 x y t
 all:∀i n,Gi S1.po i=some n->n.Var=x->(B.MU (A6 S1.po) y n.Lo∨B.MU (A6 S1.po) y n.Hi)->∃t∈L,t.n=n
 kn:K.Nodup
 ka:∀t∈L,∀p∈Yf t,p.1≠p.2->Ae (S1.ta x.toNat).ids (QS p)=none->QS p∈K
 room:S1.po.many+K.length<=S1.po.room
structure X9(S1:B4)(x y:Int)(L:List AB)(K:List K2)(k:Nat)(S:B4):Prop where
 mix:B.W6 S1.n (Dh S1.lv) (A6 S1.po) x y (λi=>∃t∈L.take k,t.n.ID=i) (A6 S.po)
 rf:∀j,Fl S.po j=Fl S1.po j
 tb:S.tb=S1.tb
 bl:S.bl=S1.bl
 bp:S.bp=S1.bp
 room:S.po.room=S1.po.room
 tn:∀v:Nat,v<S1.tb.length->Pq (S.ta v).ids
 tx:∀lo hi i,Ae (S.ta x.toNat).ids (⟨lo,hi⟩:K2)=some i↔A6 S.po i=some ⟨x,lo,hi⟩/\¬∃t∈L.drop k,t.n.ID=i
 tv:∀v:Nat,v<S1.tb.length->(v:Int)≠x->∀lo hi i,Ae (S.ta v).ids (⟨lo,hi⟩:K2)=some i↔A6 S.po i=some ⟨(v:Int),lo,hi⟩
 add:∃A:List K2,A.Nodup/\(∀κ∈A,κ∈K/\Ae (S.ta x.toNat).ids κ≠none)/\S.po.many=S1.po.many+A.length
section
variable {S1:B4} {x y:Int} {L:List AB} {K:List K2}
variable {t:AB}
theorem Cx.tn(c:Cx S1 x y L K)(ht:t∈L):B.Tn (A6 S1.po) x y t.n.ID ⟨x,t.n.Lo,t.n.Hi⟩/\∀p∈Yf t,B.Ok (A6 S1.po) p.1/\B.Ok (A6 S1.po) p.2/\Dh S1.lv y<B.el S1.n (Dh S1.lv) (A6 S1.po) p.1/\Dh S1.lv y<B.el S1.n (Dh S1.lv) (A6 S1.po) p.2:=by
 have e:=c.te t ht;have hd:=GZ e.nd;rw[e.v]at hd;have f1:=c.si.BP.four B4.JO c.hy c.PH hd rfl _ (.inl rfl);have f2:=c.si.BP.four B4.JO c.hy c.PH hd rfl _ (.inr rfl);simp only at f1 f2;have e1:B.sp (A6 S1.po) y t.n.Lo=(t.ll,t.lh):=e.l.symm;have e2:B.sp (A6 S1.po) y t.n.Hi=(t.hl,t.hh):=e.h.symm;rw[e1]at f1;rw[e2]at f2;refine⟨⟨hd,rfl,?_⟩,λp hp=>?_⟩
 .rcases e.ne with h|h
  .refine .inl (c.si.BP.XI.2 ?_);simp only;rw[e1];exact h
  .refine .inr (c.si.BP.XI.2 ?_);simp only;rw[e2];exact h
 .unfold Yf at hp;rcases List.mem_cons.1 hp with rfl|hp
  .exact⟨f1.1,f2.1,f1.2.2.1,f2.2.2.1⟩
  .rw[List.mem_singleton]at hp;subst hp;exact⟨f1.2.1,f2.2.1,f1.2.2.2.1,f2.2.2.2.1⟩
theorem Cx.Azl(c:Cx S1 x y L K)(ht:t∈L){a b:Int}(la:Dh S1.lv y<B.el S1.n (Dh S1.lv) (A6 S1.po) a)(lb:Dh S1.lv y<B.el S1.n (Dh S1.lv) (A6 S1.po) b):¬(t.n.Lo=a/\t.n.Hi=b):=by
 rintro⟨rfl,rfl⟩;rcases(c.tn ht).1.2.2 with h|h
 .exact B.noY c.si.BP la h
 .exact B.noY c.si.BP lb h
variable {k:Nat}
theorem RQ{l:List AB}(h:(l.map (·.n.ID)).Nodup){s:AB}(hs:s∈l.take k)(ht:t∈l.drop k):s.n.ID≠t.n.ID:=by
 have h1:l.map (·.n.ID)=(l.take k).map (·.n.ID)++(l.drop k).map (·.n.ID):=by rw[<-List.map_append,List.take_append_drop]
 rw[h1,List.nodup_append]at h;exact h.2.2 _ (List.mem_map_of_mem hs) _ (List.mem_map_of_mem ht)
theorem X9.UN(c:Cx S1 x y L K){S:B4}(m:X9 S1 x y L K k S)(ht:t∈L.drop k):A6 S.po t.n.ID=some ⟨x,t.n.Lo,t.n.Hi⟩/\¬∃s∈L.take k,s.n.ID=t.n.ID:=by have hn:¬∃s∈L.take k,s.n.ID=t.n.ID:=λ⟨s,hs,e⟩=>RQ c.nd hs ht e;exact⟨m.mix.stay (c.tn (List.mem_of_mem_drop ht)).1.1 λh=>hn h.2,hn⟩
theorem Aoj{M:B.Tb}{i lo hi:Int}(hi0:0<i)(hne:lo≠hi)(h:M i=some ⟨x,B.fl lo hi,B.fl hi hi⟩):B.Ri M x lo hi (B.fl (2*i) hi)/\B.Ok M (B.fl (2*i) hi):=by
 have e1:B.fl (2*i) hi/2=i:=by rw[B.Aew];omega
 have e2:0<=B.fl (2*i) hi:=by unfold B.fl B.flip;split<;>(try split)<;>omega
 have e3:B.fl (2*i) hi%2=hi%2:=by rw[B.Ano];omega
 exact⟨.inr ⟨hne,e2,by omega,e3,by rw[e1];exact h⟩,e2,.inr ⟨_,by rw[e1];exact h⟩⟩
theorem XZ{b:Nat}{S:B4}{p:Int×Int}{H:HY}{X:PX}{Q:Int×Unit->UU}(c:Cx S1 x y L K)(m:X9 S1 x y L K k S)(hC:SC S (Fl S1.po))(hS:BX H b S)(ht:t∈L.drop k)(hp:p∈Yf t)(h:∀e S' H',X9 S1 x y L K k S'->SC S' (Fl S1.po)->BX H' b S'->NF b S H H'->S'.lv=S.lv->B.Ok (A6 S'.po) e->B.Ri (A6 S'.po) x p.1 p.2 e->(∀i d,A6 S.po i=some d->A6 S'.po i=some d)->Q (e,()) () H'):Wp Y0 C7 BZ (some b,x,p.1,p.2,()) H Q X:=by
 have htL:=List.mem_of_mem_drop ht;obtain⟨hpa,hpb,la,lb⟩:=(c.tn htL).2 p hp;have hn:S.n=S1.n:=by unfold B4.n;rw[m.tb]
 have hx':x.toNat<S1.tb.length:=by have:=c.hx;unfold B4.n at this;omega
 have dag:=m.mix.dag c.si.BP B4.JO c.hx c.hy c.PH;have none0:∀{j d},A6 S.po j=some d->0<j/\j<2000000:=λ{j d}hj=>by have:=hC.cn.KB hj;have:=hC.po.len;have:=hC.po.room;omega
 have key:p.1≠p.2->Ae (S.ta x.toNat).ids (QS p)=none->QS p∈K:=λhne hno=>by
  refine c.ka t htL p hp hne ?_;cases e:Ae (S1.ta x.toNat).ids (QS p) with
  |none=>rfl
  |some j=>
   exfalso;have h1:=(c.si.tg x.toNat hx' _ _ _).1 e;rw[show ((x.toNat:Nat):Int)=x by have:=c.hx;omega]at h1;have notT:∀s∈L,s.n.ID≠j:=λs hs e2=>by have h2:=(c.tn hs).1.1;rw[e2,h1]at h2;have h3:=Option.some.inj h2;exact c.Azl hs (a:=B.fl p.1 p.2) (b:=B.fl p.2 p.2) (by rw[B.Kt];exact la) (by rw[B.Kt];exact lb) ⟨(congrArg B.Nd.lo h3).symm,(congrArg B.Nd.hi h3).symm⟩
   have h2:=m.mix.stay h1 λ⟨_,s,hs,e2⟩=>notT s (List.mem_of_mem_take hs) e2;have:=(m.tx _ _ j).2 ⟨h2,λ⟨s,hs,e2⟩=>notT s (List.mem_of_mem_drop hs) e2⟩;rw[show Ae (S.ta x.toNat).ids (QS p)=some j from this]at hno;cases hno
 refine UZ hS hC (λq d hd=>⟨(dag.lo hd).1,(dag.hi hd).1⟩) (λi hi=>?_) (by rw[hn];exact c.hx) hpb.1 (λhne hno=>?_) (λi hi=>?_) (λhe=>?_) (λi hne hi=>?_) λi S' H' hne hno ha s1 c1 f1=>?_
 .rw[<-m.rf];exact Ve hi
 .obtain⟨A,a1,a2,a3⟩:=m.add;have hk:=key hne hno;have hlt:(QS p::A).length<=K.length:=Ih (List.nodup_cons.2 ⟨λhm=>(a2 _ hm).2 hno,a1⟩) λq hq=>by
   rcases List.mem_cons.1 hq with rfl|hq
   .exact hk
   .exact(a2 q hq).1
  have:=c.room;rw[List.length_cons]at hlt;rw[a3,m.room];omega
 .exact none0 ((m.tx _ _ _).1 hi).1
 .exact h p.1 S H m hC hS NF.refl rfl (m.mix.ok hpa) (.inl ⟨he,rfl⟩) λ_ _ h=>h
 .have h1:=((m.tx _ _ _).1 hi).1;have:=Aoj (none0 h1).1 hne h1;exact h _ S H m hC hS NF.refl rfl this.2 this.1 λ_ _ h=>h
 .have hself:A6 S'.po i=some ⟨x,B.fl p.1 p.2,B.fl p.2 p.2⟩:=by rw[ha.A6];exact B.TE
  have hbel:=Aoj ha.pos hne hself;have hext:∀j d,A6 S.po j=some d->A6 S'.po j=some d:=λj d hj=>by rw[ha.A6];exact B.SH ha.KR j d hj
  have hno':∀j,A6 S.po j≠some ⟨x,B.fl p.1 p.2,B.fl p.2 p.2⟩:=λj hj=>by
   have:=(m.tx _ _ j).2 ⟨hj,λ⟨s,hs,e2⟩=>by have h2:=(m.UN c hs).1;rw[e2,hj]at h2;have h3:=Option.some.inj h2;exact c.Azl (List.mem_of_mem_drop hs) (a:=B.fl p.1 p.2) (b:=B.fl p.2 p.2) (by rw[B.Kt];exact la) (by rw[B.Kt];exact lb) ⟨(congrArg B.Nd.lo h3).symm,(congrArg B.Nd.hi h3).symm⟩⟩
   rw[show Ae (S.ta x.toNat).ids (QS p)=some j from this]at hno;cases hno
  refine h _ S' H' ⟨?_,λj=>(ha.rf j).trans (m.rf j),ha.tb.trans m.tb,ha.bl.trans m.bl,ha.bp.trans m.bp,ha.room.trans m.room,λv hv=>?_,λlo hi j=>?_,λv hv hvx lo hi j=>?_,?_⟩ c1 s1 f1 ha.lv hbel.2 hbel.1 hext
  .rw[ha.A6];exact m.mix.add c.si.BP ha.pos ha.KR hpa.fl hpb.fl (by rw[B.Kt];exact la) (by rw[B.Kt];exact lb) (λe=>hne (B.QU e)) B.TV hno'
  .rw[ha.ta];split
   .exact J5 (m.tn v hv) _ _
   .exact m.tn v hv
  .rw[ha.ta,if_pos rfl,ha.A6];simp only;rw[C9];by_cases ek:(⟨lo,hi⟩:K2)=⟨B.fl p.1 p.2,B.fl p.2 p.2⟩
   .rw[if_pos ek];obtain⟨rfl,rfl⟩:lo=B.fl p.1 p.2/\hi=B.fl p.2 p.2:=by injection ek with a b;exact⟨a,b⟩
    constructor
    .intro hj;obtain rfl:i=j:=by injection hj
     refine⟨B.TE,λ⟨s,hs,e2⟩=>?_⟩;have:=(m.UN c hs).1;rw[e2,ha.KR]at this;cases this
    .rintro⟨hj,_⟩;unfold B.IQ at hj;split at hj
     .rename_i e;rw[e]
     .exact absurd hj (hno' j)
   .rw[if_neg ek,m.tx];unfold B.IQ;split
    .rename_i e;subst e;rw[ha.KR];constructor
     .rintro⟨h1,_⟩;cases h1
     .rintro⟨h1,_⟩;have h3:=Option.some.inj h1;exact absurd (by rw[show lo=_ from (congrArg B.Nd.lo h3).symm,show hi=_ from (congrArg B.Nd.hi h3).symm]) ek
    .rfl
  .rw[ha.ta,if_neg (by have:=c.hx;omega),ha.A6,m.tv v hv hvx];unfold B.IQ;split
   .rename_i e;subst e;rw[ha.KR];constructor
    .intro h1;cases h1
    .intro h1;have h3:=Option.some.inj h1;exact absurd (congrArg B.Nd.v h3).symm hvx
   .rfl
  .obtain⟨A,a1,a2,a3⟩:=m.add;have hself:Ae (S'.ta x.toNat).ids (QS p)≠none:=by rw[ha.ta,if_pos rfl];show Ae (BL _ (QS p) i) (QS p)≠none;rw[C9,if_pos rfl];simp
   refine⟨QS p::A,List.nodup_cons.2 ⟨λhm=>(a2 _ hm).2 hno,a1⟩,fun κ hκ=>?_,by rw[ha.many,a3,List.length_cons];omega⟩;rcases List.mem_cons.1 hκ with rfl|hκ
   .exact⟨key hne hno,hself⟩
   .refine⟨(a2 κ hκ).1,?_⟩;rw[ha.ta,if_pos rfl];simp only;rw[C9];split
    .simp
    .exact(a2 κ hκ).2
end
end
section
section
variable {S1:B4} {x y:Int} {L:List AB} {K:List K2}
variable {k:Nat} {S:B4}
theorem X9.wc(m:X9 S1 x y L K k S)(cn:List Int)(dead:Int):X9 S1 x y L K k (S.wc cn dead):=⟨m.mix,m.rf,m.tb,m.bl,m.bp,m.room,m.tn,m.tx,m.tv,m.add⟩
theorem Afz(hk:k<L.length)(i:Int):(∃t∈L.take (k+1),t.n.ID=i)↔(∃t∈L.take k,t.n.ID=i)∨i=(L[k]).n.ID:=by
 rw[List.take_succ_eq_append_getElem hk];constructor
 .rintro⟨t,ht,e⟩;rcases List.mem_append.1 ht with ht|ht
  .exact .inl ⟨t,ht,e⟩
  .rw[List.mem_singleton]at ht;subst ht;exact .inr e.symm
 .rintro(⟨t,ht,e⟩|e)
  .exact⟨t,List.mem_append_left _ ht,e⟩
  .exact⟨_,List.mem_append_right _ (List.mem_singleton.2 rfl),e.symm⟩
theorem Aro(hk:k<L.length)(i:Int):(∃t∈L.drop k,t.n.ID=i)↔i=(L[k]).n.ID∨∃t∈L.drop (k+1),t.n.ID=i:=by
 rw[List.drop_eq_getElem_cons hk];constructor
 .rintro⟨t,ht,e⟩;rcases List.mem_cons.1 ht with rfl|ht
  .exact .inl e.symm
  .exact .inr ⟨t,ht,e⟩
 .rintro(e|⟨t,ht,e⟩)
  .exact⟨_,List.mem_cons_self,e.symm⟩
  .exact⟨t,List.mem_cons_of_mem _ ht,e⟩
theorem Aqy(c:Cx S1 x y L K)(m:X9 S1 x y L K k S)(hk:k<L.length){lo hi:Int}(b1:B.Ri (A6 S.po) x (L[k]).ll (L[k]).hl lo)(b2:B.Ri (A6 S.po) x (L[k]).lh (L[k]).hh hi){x':Av}(hnd:∀j,Gi x' j=if j=(L[k]).n.ID then some (⟨(L[k]).n.ID,y,lo,hi,(L[k]).n.Refs⟩:Ap) else Gi S.po j)(hmany:x'.many=S.po.many)(hroom:x'.room=S.po.room):Ae (S.ta y.toNat).ids (⟨lo,hi⟩:K2)=none/\X9 S1 x y L K (k+1) {S with po:=x',ta:=λw=>if w=y.toNat then ⟨BL (S.ta y.toNat).ids (⟨lo,hi⟩:K2) (L[k]).n.ID⟩ else S.ta w}/\A6 x'=λj=>if j=(L[k]).n.ID then some ⟨y,lo,hi⟩ else A6 S.po j:=by
 have hne:x≠y:=λe=>by have:=c.PH;rw[e]at this;omega
 have hy':y.toNat<S1.tb.length:=by have:=c.hy;unfold B4.n at this;omega
 have hyy:((y.toNat:Nat):Int)=y:=by have:=c.hy;omega
 have hmem:L[k]∈L.drop k:=by rw[List.drop_eq_getElem_cons hk];exact List.mem_cons_self
 have hL:=List.mem_of_mem_drop hmem;have e:=c.te _ hL;obtain⟨u1,u2⟩:=m.UN c hmem;have ht:A6 x'=λj=>if j=(L[k]).n.ID then some ⟨y,lo,hi⟩ else A6 S.po j:=by funext j;unfold A6;rw[hnd];split<;>rfl
 have e1:B.sp (A6 S1.po) y (L[k]).n.Lo=((L[k]).ll,(L[k]).lh):=e.l.symm;have e2:B.sp (A6 S1.po) y (L[k]).n.Hi=((L[k]).hl,(L[k]).hh):=e.h.symm;have c1:B.Ri (A6 S.po) x (B.sp (A6 S1.po) y (L[k]).n.Lo).1 (B.sp (A6 S1.po) y (L[k]).n.Hi).1 lo:=by rw[e1,e2];exact b1
 have c2:B.Ri (A6 S.po) x (B.sp (A6 S1.po) y (L[k]).n.Lo).2 (B.sp (A6 S1.po) y (L[k]).n.Hi).2 hi:=by rw[e1,e2];exact b2
 have hyn:=m.mix.A1u c.si.BP B4.JO c.hx c.hy c.PH (c.tn hL).1 u2 c1 c2;have hv:=m.tv y.toNat hy' (by rw[hyy];exact Ne.symm hne);rw[hyy]at hv;have hno:Ae (S.ta y.toNat).ids (⟨lo,hi⟩:K2)=none:=by
  cases e:Ae (S.ta y.toNat).ids (⟨lo,hi⟩:K2) with
  |none=>rfl
  |some j=>exact absurd ((hv _ _ _).1 e) (hyn j)
 refine⟨hno,⟨?_,λj=>?_,m.tb,m.bl,m.bp,hroom.trans m.room,λv hv=>?_,λlo' hi' i=>?_,λv hvl hvx lo' hi' i=>?_,?_⟩,ht⟩
 .show B.W6 _ _ _ _ _ _ (A6 x');rw[ht,show (λi=>∃t∈L.take (k+1),t.n.ID=i)=λj=>(∃t∈L.take k,t.n.ID=j)∨j=(L[k]).n.ID from funext λi=>propext (Afz hk i)];exact m.mix.set c.si.BP B4.JO c.hx c.hy c.PH (c.tn hL).1 u2 c1 c2
 .rw[<-m.rf];show Fl x' j=_;by_cases ej:j=(L[k]).n.ID
  .subst ej;rw[m.rf];unfold Fl;rw[hnd,if_pos rfl,e.nd]
  .unfold Fl;rw[hnd,if_neg ej]
 .show Pq (if v=y.toNat then (⟨_⟩:Az) else S.ta v).ids;split
  .exact J5 (m.tn _ hy') _ _
  .exact m.tn v hv
 .show Ae (if x.toNat=y.toNat then (⟨_⟩:Az) else S.ta x.toNat).ids _=some i↔A6 x' i=_/\_;rw[if_neg (by have:=c.hx;have:=c.hy;omega),m.tx,ht,Aro hk];by_cases ei:i=(L[k]).n.ID
  .simp only[ei,if_true];constructor
   .rintro⟨_,h⟩;exact absurd (.inl trivial) h
   .rintro⟨h,_⟩;exact absurd (congrArg B.Nd.v (Option.some.inj h)).symm hne
  .simp only[ei,if_false,false_or]
 .show Ae (if v=y.toNat then (⟨_⟩:Az) else S.ta v).ids _=some i↔A6 x' i=_;rw[ht];show _↔(if i=(L[k]).n.ID then some ⟨y,lo,hi⟩ else A6 S.po i)=_;by_cases ev:v=y.toNat
  .subst ev;rw[if_pos rfl,hyy];simp only;rw[C9];by_cases ek:(⟨lo',hi'⟩:K2)=⟨lo,hi⟩
   .rw[if_pos ek];obtain⟨rfl,rfl⟩:lo'=lo/\hi'=hi:=by injection ek with a b;exact⟨a,b⟩
    constructor
    .intro h;rw[if_pos (Option.some.inj h).symm]
    .intro h;split at h
     .rename_i ei;rw[ei]
     .exact absurd h (hyn i)
   .rw[if_neg ek,hv];by_cases ei:i=(L[k]).n.ID
    .rw[if_pos ei,ei,u1];constructor
     .intro h;exact absurd (congrArg B.Nd.v (Option.some.inj h)) hne
     .intro h;have h3:=Option.some.inj h;exact absurd (by rw[show lo'=_ from (congrArg B.Nd.lo h3).symm,show hi'=_ from (congrArg B.Nd.hi h3).symm]) ek
    .rw[if_neg ei]
  .rw[if_neg ev,m.tv v hvl hvx];by_cases ei:i=(L[k]).n.ID
   .rw[if_pos ei,ei,u1];constructor
    .intro h;exact absurd (congrArg B.Nd.v (Option.some.inj h)).symm hvx
    .intro h;have:y=(v:Int):=congrArg B.Nd.v (Option.some.inj h);omega
   .rw[if_neg ei]
 .obtain⟨A,a1,a2,a3⟩:=m.add;refine⟨A,a1,fun κ hκ=>?_,by show x'.many=_;rw[hmany];exact a3⟩;show κ∈K/\Ae (if x.toNat=y.toNat then (⟨_⟩:Az) else S.ta x.toNat).ids κ≠none;rw[if_neg (by have:=c.hx;have:=c.hy;omega)];exact a2 κ hκ
theorem X9.live(c:Cx S1 x y L K)(m:X9 S1 x y L K k S){r:Int->Int}(hC:SC S r)(hr:∀i,Fl S1.po i<=r i){t:AB}(ht:t∈L.drop k):0<FD S.cn t.n.ID:=by have hd:=(c.tn (List.mem_of_mem_drop ht)).1.1;have h1:=c.si.BP.od.MT x c.hx.1 c.hx.2;refine B.Cn.Aq0 (a:=Dh S1.lv x) c.si.BP c.si.sc.cn c.live hC.cn c.si.rf hr (λi d hi hlt=>m.mix.stay hi λh=>?_) (Dh S1.lv x+1).toNat t.n.ID _ _ hd (Int.le_refl _) (by show Dh S1.lv x<_;omega) (m.UN c ht).1;rw[h.1.2.1]at hlt;omega
theorem Auu{p:Option Nat}{b:Nat}{lo hi i:Int}{H:HY}{X:PX}{Q:Int×Unit->UU}(hp:p=some b)(h:Wp Y0 Dv CM (some b,lo,hi,i,()) H Q X):Wp Y0 Dv CM (p,lo,hi,i,()) H Q X:=by subst hp;exact h
theorem Amr{b:Nat}{H:HY}{X:PX}{N:HP}(c:Cx S1 x y L K)(hrb:∀i,Fl S1.po i<=576460752303423488)(m:X9 S1 x y L K k S)(hk:k<L.length)(hC:SC S (Fl S1.po))(hS:BX H b S)(h:∀S' H',X9 S1 x y L K (k+1) S'->SC S' (Fl S1.po)->BX H' b S'->NF b S H H'->S'.lv=S.lv->N H'):Wp Y0 C7 BZ (some b,x,(L[k]).ll,(L[k]).hl,()) H (λ(b_10:Int×Unit)_ H'=>Wp Y0 C7 BZ (some b,x,(L[k]).lh,(L[k]).hh,()) H' (λ(b_11:Int×Unit)_ H'=>Wp Y0 Bt Bm (some b,b_10.1,()) H' (λ(_ _:Unit)(H':HY)=>Wp Y0 Bt Bm (some b,b_11.1,()) H' (λ(_ _:Unit)(H':HY)=>∃(x:Aa),H' b=some (Ob.st AA x)/\x=x/\Wp Y0 BH B8 (x.Ba,{ID:=(L[k]).n.ID,Var:=y,Lo:=b_10.1,Hi:=b_11.1,Refs:=(L[k]).n.Refs:Ap},()) H' (λ(_:Int×Unit)_ H'=>∃(x:Aa),H' b=some (Ob.st AA x)/\(Ag .i64 y->(Ag .i64 y->0<=y)/\∃(h:y.toNat<x.tables.length),∃(_:y.toNat<x.tables.length),x=x/\Wp Y0 Dv CM (x.tables[y.toNat],b_10.1,b_11.1,(L[k]).n.ID,()) H' (λ(_:Int×Unit)_ H'=>Wp Y0 Bu Bn (some b,(L[k]).n.Lo,()) H' (λ(_ _:Unit)(H':HY)=>Wp Y0 Bu Bn (some b,(L[k]).n.Hi,()) H' (λ(_ _:Unit)(H':HY)=>N H') X) X) X)) X) X) X) X) X:=by
 have hmem:L[k]∈L.drop k:=by rw[List.drop_eq_getElem_cons hk];exact List.mem_cons_self
 have hL:=List.mem_of_mem_drop hmem;have hy':y.toNat<S1.tb.length:=by have:=c.hy;unfold B4.n at this;omega
 have hd:=(c.tn hL).1.1;have okN:∀e,B.Ok (A6 S1.po) e->∀{j:Nat}{S:B4},X9 S1 x y L K j S->B.Ok (A6 S.po) e:=λe he j S m=>m.mix.ok he;refine XZ (p:=((L[k]).ll,(L[k]).hl)) c m hC hS hmem List.mem_cons_self λlo S2 H2 m2 c2 s2 f2 v2 o2 b2 _=>?_;refine XZ (p:=((L[k]).lh,(L[k]).hh)) c m2 c2 s2 hmem (List.mem_cons_of_mem _ List.mem_cons_self) λhi S3 H3 m3 c3 s3 f3 v3 o3 b3 ext3=>?_;have b2:B.Ri (A6 S3.po) x (L[k]).ll (L[k]).hl lo:=b2.ext ext3;have o2:B.Ok (A6 S3.po) lo:=o2.ext ext3;have dag:=m3.mix.dag c.si.BP B4.JO c.hx c.hy c.PH;have fuel:∀{N:B.Tb}{e:Int},B.Dag N (B.JY (Dh S1.lv) (A6 S1.po) x y) (3*S1.n)->B.Ok N e->e/2≠0->3*S1.n-B.JY (Dh S1.lv) (A6 S1.po) x y (e/2)<(3*S1.n+1).toNat:=λ{N e}dag he h0=>by obtain⟨d,hd⟩:=he.2.resolve_left h0;have:=dag.MT hd;omega
 refine LM (rk:=B.JY (Dh S1.lv) (A6 S1.po) x y) (n:=3*S1.n) (3*S1.n+1).toNat dag (fuel dag o2) s3 c3 o2 (λi d _=>by have:=hrb i;have:=@B.G8 lo i;show Fl S1.po i+B.dl lo i<=_;omega) λcn4 dead4 H4 s4 c4 _ f4=>?_;refine LM (S:=S3.wc cn4 dead4) (rk:=B.JY (Dh S1.lv) (A6 S1.po) x y) (n:=3*S1.n) (3*S1.n+1).toNat dag (fuel dag o3) s4 c4 o3 (λi d _=>by have:=hrb i;have:=@B.G8 lo i;have:=@B.G8 hi i;show Fl S1.po i+B.dl lo i+B.dl hi i<=_;omega) λcn5 dead5 H5 s5 c5 _ f5=>?_;have m5:=m3.wc cn5 dead5;have hpos:=X9.live c m5 c5 (λi=>by have:=@B.G8 lo i;have:=@B.G8 hi i;show _<=Fl S1.po i+B.dl lo i+B.dl hi i;omega) hmem;have hund:=(m5.UN c hmem).1;refine⟨_,s5.st,rfl,?_⟩;refine O0 (x:=S3.po) s5.po c5.po (λh0=>?_) λn0 x' hn0 hI' hnd hmany hroom hlen=>?_
 .obtain⟨n1,hn1,_⟩:=Gq hund;exact absurd (h0.symm.trans hn1) (by simp)
 obtain⟨t1,t2,t3⟩:=Aqy (S:=S3.wc cn5 dead5) c m5 hk b2 b3 (x':=x') hnd hmany hroom;obtain⟨s6,f6⟩:=s5.Alb x';have hy6:y.toNat<S3.tb.length:=by rw[m3.tb];exact hy'
 refine⟨_,s6.st,λ_=>⟨λ_=>c.hy.1,by simpa [B4.ob,B4.wc] using hy6,by simpa [B4.ob,B4.wc] using hy6,rfl,?_⟩⟩;refine Auu (b:=S3.tb[y.toNat]) (by simp [B4.ob,B4.wc]) ?_;refine UW (s6.ta _ hy6) t1 ?_;obtain⟨s7,f7⟩:=s6.Ala hy6 ⟨BL (S3.ta y.toNat).ids (⟨lo,hi⟩:K2) (L[k]).n.ID⟩;obtain⟨k1,k2⟩:=c5.cn.set (d':=⟨y,lo,hi⟩) hund hpos;have c7:SC {S3.wc cn5 dead5 with po:=x',ta:=λw=>if w=y.toNat then ⟨BL (S3.ta y.toNat).ids (⟨lo,hi⟩:K2) (L[k]).n.ID⟩ else S3.ta w} (λi=>Fl S1.po i+B.mu ⟨x,(L[k]).n.Lo,(L[k]).n.Hi⟩ i):=by
  refine⟨hI',?_,λi d hi=>?_,?_⟩
  .show B.Cn (A6 x') x'.at_.length (FD cn5) _;rw[t3,hlen];refine k1.congr λi _=>?_;simp only[B.mu];omega
  .have hi:A6 x' i=some d:=hi;rw[t3]at hi;simp only at hi;split at hi
   .rename_i e;rw[e];exact c5.ln _ _ hund
   .exact c5.ln _ _ hi
  .show dead5=B.sm x'.at_.length (B.zr (A6 x') (FD cn5));rw[t3,hlen];exact c5.dead.trans k2.symm
 have dag7:=t2.mix.dag c.si.BP B4.JO c.hx c.hy c.PH;have kl:=okN _ (c.si.kids _ _ hd).1 t2;have kh:=okN _ (c.si.kids _ _ hd).2 t2;simp only at kl kh;refine LN (S:={S3.wc cn5 dead5 with po:=x',ta:=λw=>if w=y.toNat then ⟨BL (S3.ta y.toNat).ids (⟨lo,hi⟩:K2) (L[k]).n.ID⟩ else S3.ta w}) (rk:=B.JY (Dh S1.lv) (A6 S1.po) x y) (n:=3*S1.n) (3*S1.n+1).toNat dag7 (fuel dag7 kl) s7 c7 kl (λi d _=>?_) λcn8 dead8 H8 s8 c8 f8=>?_
 .have:=c.si.rf i;have:=@B.G8 (L[k]).n.Hi i;simp only[B.mu];omega
 refine LN (S:=B4.wc {S3.wc cn5 dead5 with po:=x',ta:=λw=>if w=y.toNat then ⟨BL (S3.ta y.toNat).ids (⟨lo,hi⟩:K2) (L[k]).n.ID⟩ else S3.ta w} cn8 dead8) (rk:=B.JY (Dh S1.lv) (A6 S1.po) x y) (n:=3*S1.n) (3*S1.n+1).toNat dag7 (fuel dag7 kh) s8 c8 kh (λi d _=>?_) λcn9 dead9 H9 s9 c9 f9=>?_
 .have:=c.si.rf i;have:=@B.G8 (L[k]).n.Lo i;simp only[B.mu];omega
 refine h _ H9 (t2.wc cn9 dead9) ⟨c9.po,c9.cn.congr λi _=>?_,c9.ln,c9.dead⟩ s9 ?_ (v3.trans v2)
 .simp only[B.mu];omega
 .have g1:=f2.trans f3 (m2.bl.trans m.bl.symm) (m2.bp.trans m.bp.symm) (m2.tb.trans m.tb.symm);have q1:=m3.bl.trans m.bl.symm;have q2:=m3.bp.trans m.bp.symm;have q3:=m3.tb.trans m.tb.symm;exact(((((g1.trans f4 q1 q2 q3).trans f5 q1 q2 q3).trans f6 q1 q2 q3).trans f7 q1 q2 q3).trans f8 q1 q2 q3).trans f9 q1 q2 q3
end
end
section
structure Y4(S S':B4):Prop where
 tb:S'.tb=S.tb
 bl:S'.bl=S.bl
 bp:S'.bp=S.bp
 room:S'.po.room=S.po.room
 rf:∀j,Fl S'.po j=Fl S.po j
 ok:∀e,B.Ok (A6 S.po) e->(e/2=0∨0<Fl S.po (e/2))->B.Ok (A6 S'.po) e/\B.den (A6 S'.po) e=B.den (A6 S.po) e
variable {S:B4}
theorem Y4.refl:Y4 S S:=⟨rfl,rfl,rfl,rfl,λ_=>rfl,λ_ h _=>⟨h,rfl⟩⟩
variable {S':B4}
theorem Y4.trans{S'':B4}(h:Y4 S S')(k:Y4 S' S''):Y4 S S'':=⟨k.tb.trans h.tb,k.bl.trans h.bl,k.bp.trans h.bp,k.room.trans h.room,λj=>(k.rf j).trans (h.rf j),λe he hr=>by obtain⟨h1,h2⟩:=h.ok e he hr;obtain⟨h3,h4⟩:=k.ok e h1 (by rw[h.rf];exact hr);exact⟨h3,h4.trans h2⟩⟩
theorem Ww(h:SI S)(c:Clt S S'):∀i d,A6 S'.po i=some d->0<FD S'.cn i:=λi d hd=>by
 rw[c.A6]at hd;split at hd
 .cases hd
 .have:=h.sc.cn.nn hd;rw[c.cn];omega
theorem UH(h:SI S)(h':SI S')(c:Clt S S'):Y4 S S':=by
 have hsub:∀i d,A6 S'.po i=some d->A6 S.po i=some d:=λi d hd=>by
  rw[c.A6]at hd;split at hd
  .cases hd
  .exact hd
 have hcut:=h.BP.cut B4.JO hsub h'.kids;refine⟨c.tb,c.bl,c.bp,c.room,c.rf,λe he hr=>?_⟩;have ho:B.Ok (A6 S'.po) e:=by
  refine⟨he.1,?_⟩;rcases hr with hr|hr
  .exact .inl hr
  .rcases he.2 with h0|⟨d,hd⟩
   .exact .inl h0
   .have:=h.sc.cn.ge hd;exact .inr ⟨d,by rw[c.A6,if_neg (by omega)];exact hd⟩
 exact⟨ho,(hcut.2 e ho).1⟩
section
variable {S1:B4} {x y:Int} {L:List AB} {K:List K2}
structure Ctt(S1:B4)(lv2:AF)(x:Int)(L:List AB)(k:Nat)(S:B4):Prop where
 eq:S={S1 with lv:=lv2,ta:=S.ta}
 tn:∀v:Nat,v<S1.tb.length->Pq (S.ta v).ids
 tx:∀lo hi i,Ae (S.ta x.toNat).ids (⟨lo,hi⟩:K2)=some i↔A6 S1.po i=some ⟨x,lo,hi⟩/\¬∃t∈L.take k,t.n.ID=i
 tv:∀v:Nat,v<S1.tb.length->(v:Int)≠x->∀lo hi i,Ae (S.ta v).ids (⟨lo,hi⟩:K2)=some i↔A6 S1.po i=some ⟨(v:Int),lo,hi⟩
variable {k:Nat} {S:B4}
theorem Ctt.step{lv2:AF}(c:Cx S1 x y L K)(h:Ctt S1 lv2 x L k S)(hk:k<L.length):Ae (S.ta x.toNat).ids (⟨(L[k]).n.Lo,(L[k]).n.Hi⟩:K2)=some (L[k]).n.ID/\Ctt S1 lv2 x L (k+1) {S with ta:=λw=>if w=x.toNat then ⟨Df (S.ta x.toNat).ids (⟨(L[k]).n.Lo,(L[k]).n.Hi⟩:K2)⟩ else S.ta w}:=by
 have hmem:L[k]∈L.drop k:=by rw[List.drop_eq_getElem_cons hk];exact List.mem_cons_self
 have hx':x.toNat<S1.tb.length:=by have:=c.hx;unfold B4.n at this;omega
 have hd:=(c.tn (List.mem_of_mem_drop hmem)).1.1;have hnot:¬∃t∈L.take k,t.n.ID=(L[k]).n.ID:=λ⟨s,hs,e⟩=>RQ c.nd hs hmem e;refine⟨(h.tx _ _ _).2 ⟨hd,hnot⟩,?_,λv hv=>?_,λlo hi i=>?_,λv hv hvx lo hi i=>?_⟩
 .rw[h.eq]
 .show Pq (if v=x.toNat then (⟨_⟩:Az) else S.ta v).ids;split
  .exact RW (h.tn _ hx') _
  .exact h.tn v hv
 .show Ae (if x.toNat=x.toNat then (⟨_⟩:Az) else S.ta x.toNat).ids _=some i↔_;rw[if_pos rfl];simp only;rw[Ij (h.tn _ hx'),Afz hk];by_cases ek:(⟨lo,hi⟩:K2)=⟨(L[k]).n.Lo,(L[k]).n.Hi⟩
  .rw[if_pos ek];obtain⟨rfl,rfl⟩:lo=(L[k]).n.Lo/\hi=(L[k]).n.Hi:=by injection ek with a b;exact⟨a,b⟩
   constructor
   .intro e;cases e
   .rintro⟨h1,h2⟩;exact absurd (.inr (c.si.BP.XD h1 hd)) h2
  .rw[if_neg ek,h.tx];constructor
   .rintro⟨h1,h2⟩;refine⟨h1,λh3=>h3.elim h2 λe=>ek ?_⟩;rw[e,hd]at h1;have h3:=Option.some.inj h1;rw[show lo=_ from (congrArg B.Nd.lo h3).symm,show hi=_ from (congrArg B.Nd.hi h3).symm]
   .rintro⟨h1,h2⟩;exact⟨h1,λh3=>h2 (.inl h3)⟩
 .show Ae (if v=x.toNat then (⟨_⟩:Az) else S.ta v).ids _=some i↔_;rw[if_neg (by have:=c.hx;omega)];exact h.tv v hv hvx lo hi i
theorem Ctt.mid{lv2:AF}(c:Cx S1 x y L K)(h:Ctt S1 lv2 x L L.length S):X9 S1 x y L K 0 S/\SC S (Fl S1.po):=by
 have e:=h.eq;have epo:S.po=S1.po:=by rw[e]
 have f:(λi:Int=>∃t∈L.take 0,t.n.ID=i)=λ_=>False:=by funext i;simp
 refine⟨⟨by rw[f,epo];exact B.W6.start c.si.BP,λj=>by rw[epo],by rw[e],by rw[e],by rw[e],by rw[epo],h.tn,λlo hi i=>?_,λv hv hvx lo hi i=>by rw[epo];exact h.tv v hv hvx lo hi i,[],List.nodup_nil,fun κ hκ=>absurd hκ List.not_mem_nil,by rw[epo];simp⟩,?_⟩
 .rw[h.tx,epo,List.take_length];rfl
 .have hc:=c.si.sc;refine⟨by rw[epo];exact hc.po,?_,?_,?_⟩
  .rw[epo,show S.cn=S1.cn by rw[e]];exact hc.cn
  .rw[epo,show S.cn=S1.cn by rw[e]];exact hc.ln
  .rw[epo,show S.cn=S1.cn by rw[e],show S.dead=S1.dead by rw[e]];exact hc.dead
theorem Aub{lv:AF}(hx:0<=x/\x.toNat<lv.level.length)(hy:0<=y/\y.toNat<lv.level.length)(hne:x≠y)(ex:Dh lv x=k)(ey:Dh lv y=k+1):Dh (swL lv k x y)=B.sw (Dh lv) x y:=by
 funext v;unfold B.sw;by_cases vx:v=x
 .subst vx;rw[if_pos rfl,ey];unfold Dh swL;simp only;rw[if_pos hx.1,List.getElem?_set_ne (by omega),List.getElem?_set_self hx.2];rfl
 .rw[if_neg vx];by_cases vy:v=y
  .subst vy;rw[if_pos rfl,ex];unfold Dh swL;simp only;rw[if_pos hy.1,List.getElem?_set_self (by simpa using hy.2)];rfl
  .rw[if_neg vy];unfold Dh swL;simp only;split
   .rw[List.getElem?_set_ne (by omega),List.getElem?_set_ne (by omega)]
   .rfl
theorem X9.si(c:Cx S1 x y L K)(hkx:S1.lv.vars[k]?=some x)(hky:S1.lv.vars[k+1]?=some y)(m:X9 S1 x y L K L.length S)(hC:SC S (Fl S1.po))(hlv:S.lv=swL S1.lv k x y):SI S/\Y4 S1 S:=by
 have hne:x≠y:=λe=>by have:=c.PH;rw[e]at this;omega
 have hn:S.n=S1.n:=by unfold B4.n;rw[m.tb]
 have ix:=c.si.inv k x hkx;have iy:=c.si.inv (k+1) y hky;have hxl:0<=x/\x.toNat<S1.lv.level.length:=⟨c.hx.1,by rw[c.si.ll];have:=c.hx;unfold B4.n at this;omega⟩
 have hyl:0<=y/\y.toNat<S1.lv.level.length:=⟨c.hy.1,by rw[c.si.ll];have:=c.hy;unfold B4.n at this;omega⟩
 have hsw:Dh S.lv=B.sw (Dh S1.lv) x y:=by rw[hlv];exact Aub hxl hyl hne ix.2.2 (by rw[iy.2.2];omega)
 have swp:=m.mix.swp λ{i d}ht=>by obtain⟨n,hn,h1,h2,h3⟩:=Gq ht.1;obtain⟨t,ht',e⟩:=c.all i n hn (h1.trans ht.2.1) (by rw[h2,h3];exact ht.2.2);refine⟨t,by rw[List.take_length];exact ht',?_⟩;rw[e];exact c.si.sc.po.id _ _ hn
 obtain⟨g1,g2,g3⟩:=c.si.BP.swap B4.JO c.hx c.hy c.PH swp;have hrf:Fl S.po=Fl S1.po:=funext m.rf;have hvl:S.lv.vars.length=S1.lv.vars.length:=by rw[hlv];simp [swL]
 refine⟨⟨by rw[hrf];exact hC,by rw[hn,hsw];exact g1,by rw[hvl,m.tb];exact c.si.vl,by rw[hlv,m.tb];simpa [swL] using c.si.ll,λl v hl=>?_,λv hv=>m.tn v (by rw[<-m.tb];exact hv),λv hv lo hi i=>?_,λi=>by rw[hrf];exact c.si.rf i⟩,m.tb,m.bl,m.bp,m.room,m.rf,λe he _=>⟨g2 e he,g3 e he⟩⟩
 .rw[hn,hsw];rw[hlv]at hl;have hl:((S1.lv.vars.set k y).set (k+1) x)[l]?=some v:=hl;have hkl:=(List.getElem?_eq_some_iff.1 hkx).1;have hkl1:=(List.getElem?_eq_some_iff.1 hky).1;by_cases e1:l=k+1
  .subst e1;rw[List.getElem?_set_self (by simpa using hkl1)]at hl;cases hl;refine⟨c.hx.1,c.hx.2,?_⟩;rw[B.WX,iy.2.2]
  .rw[List.getElem?_set_ne (Ne.symm e1)]at hl;by_cases e2:l=k
   .subst e2;rw[List.getElem?_set_self hkl]at hl;cases hl;refine⟨c.hy.1,c.hy.2,?_⟩;rw[B.YH hne,ix.2.2]
   .rw[List.getElem?_set_ne (Ne.symm e2)]at hl;obtain⟨h1,h2,h3⟩:=c.si.inv l v hl;refine⟨h1,h2,?_⟩;rw[B.YI,h3]
    .intro e;rw[e,ix.2.2]at h3;omega
    .intro e;rw[e,iy.2.2]at h3;omega
 .rw[m.tb]at hv;by_cases e:(v:Int)=x
  .have hvx:v=x.toNat:=by omega
   rw[e,hvx,m.tx,List.drop_length];simp
  .exact m.tv v hv e lo hi i
end
end
section
variable {b:Nat} {S:B4} {H:HY} {X:PX} {Q:Int×Unit->UU}
theorem Xb(hS:BX H b S)(h:Q (S.po.room,()) () H):Wp Y0 HT F6 (some b,()) H Q X:=by refine QL _ _ _ _ ?_;refine⟨λh=>absurd h (by simp),λ_=>⟨b,rfl,S.ob,hS.st,rfl,?_⟩⟩;refine Tl _ _ _ _ ?_;exact⟨λh=>absurd h (by simp [B4.ob]),λ_=>⟨S.bp,rfl,S.po,hS.po,rfl,h⟩⟩
theorem YJ(hS:BX H b S)(h:Q (S.po.many,()) () H):Wp Y0 IG Gg (some b,()) H Q X:=by refine RO _ _ _ _ ?_;refine⟨λh=>absurd h (by simp),λ_=>⟨b,rfl,S.ob,hS.st,rfl,?_⟩⟩;refine Uq _ _ _ _ ?_;exact⟨λh=>absurd h (by simp [B4.ob]),λ_=>⟨S.bp,rfl,S.po,hS.po,rfl,h⟩⟩
theorem PS{level:Int}(hS:BX H b S)(hI:SI S)(hrb:∀i,Fl S.po i<=576460752303423488)(h2:¬(0<=level/\level<S.n-1)->Q (2,()) () H)(h7:∀S' H',(∃i d,A6 S.po i=some d)->BX H' b S'->SI S'->Y4 S S'->PJ b S H H'->S'.lv=S.lv->Q (7,()) () H')(h:∀S' H'(x y:Int),0<=level->level<S.n-1->S.lv.vars[level.toNat]?=some x->S.lv.vars[level.toNat+1]?=some y->BX H' b S'->SI S'->Y4 S S'->PJ b S H H'->S'.lv=swL S.lv level.toNat x y->(∀i d,A6 S'.po i=some d->0<FD S'.cn i)->Q (0,()) () H'):Wp Y0 Dw CH (some b,level,()) H Q X:=by
 apply QK;unfold KW;have hvl:(S.lv.vars.length:Int)=S.n:=by unfold B4.n;rw[hI.vl]
 have hn64:=hI.BP.od.n64;refine⟨λh=>absurd h (by simp),λ_=>⟨λhl=>h2 (by omega),λhl=>⟨b,rfl,S.ob,hS.st,S.bl,rfl,rfl,S.lv,hS.lv,λ_ _=>⟨AG.2 (by rw[hvl];have:=@B4.JO S;omega),λhle=>⟨rfl,h2 (by rw[hvl]at hle;omega)⟩,λhle=>⟨rfl,?_⟩⟩⟩⟩⟩;rw[hvl]at hle;refine GI hS hI λS1 H1 _ s1 i1 c1 f1=>?_;have hn1:S1.n=S.n:=by unfold B4.n;rw[c1.tb]
 have chg1:=UH hI i1 c1;have hvl1:(S1.lv.vars.length:Int)=S.n:=by rw[c1.lv];exact hvl
 obtain⟨k,hk⟩:∃k:Nat,level=k:=⟨level.toNat,by omega⟩
 subst hk;have t0:((k:Int)).toNat=k:=by omega
 have t1:((k:Int)+1).toNat=k+1:=by omega
 have hk0:k<S1.lv.vars.length:=by omega
 have hk1:k+1<S1.lv.vars.length:=by omega
 have ik:Ag .i64 ((k:Int)+1):=AG.2 (by omega);refine⟨S1.ob,s1.st,S1.bl,rfl,rfl,S1.lv,s1.lv,λ_=>⟨λ_=>by omega,by rw[t0];exact hk0,by rw[t0];exact hk0,rfl,S1.ob,s1.st,S1.bl,rfl,rfl,S1.lv,s1.lv,λ_=>⟨ik,λ_=>⟨λ_=>by omega,by rw[t1];exact hk1,by rw[t1];exact hk1,rfl,?_⟩⟩⟩⟩;generalize hx:S1.lv.vars[((k:Int)).toNat]'_=x;generalize hy:S1.lv.vars[((k:Int)+1).toNat]'_=y;replace hx:S1.lv.vars[k]=x:=hx;replace hy:S1.lv.vars[k+1]=y:=hy;have hxs:S1.lv.vars[k]?=some x:=by rw[List.getElem?_eq_getElem hk0,hx]
 have hys:S1.lv.vars[k+1]?=some y:=by rw[List.getElem?_eq_getElem hk1,hy]
 have ix:=i1.inv k x hxs;have iy:=i1.inv (k+1) y hys;have hP:=i1.sc.po;refine WZ s1 i1 ⟨ix.1,ix.2.1⟩ λL H2 s2 f2 l1 l2 l3 l4=>?_;have cpos:∀t∈L,∀p∈Yf t,0<=p.2:=λt ht p hp=>by
  have e:=l3 t ht;have hd:=GZ e.nd;rw[e.v]at hd;have q1:=i1.BP.four B4.JO ⟨iy.1,iy.2.1⟩ (by rw[ix.2.2,iy.2.2];omega) hd rfl _ (.inr rfl);simp only at q1;rw[show B.sp (A6 S1.po) y t.n.Hi=(t.hl,t.hh) from e.h.symm]at q1;rcases List.mem_cons.1 hp with rfl|hp
  .exact q1.1.1
  .rw[List.mem_singleton]at hp;subst hp;exact q1.2.1.1
 refine UY s2 ⟨ix.1,ix.2.1⟩ cpos l2 λK k1 k2 k3=>?_;replace k2:K.length<=2*L.length:=k2;have hfree:S1.po.free.length<=S1.po.at_.length:=Agu (λi:Int=>i.toNat) hP.nd (λi hi=>by have:=hP.fr i hi;omega) λi hi j hj e=>by have:=hP.fr i hi;have:=hP.fr j hj;have e:i.toNat=j.toNat:=e;omega
 have hlen:=hP.len;have hroom:=hP.room;have hcnt:=hP.cnt;refine Xb s2 (YJ s2 λ_ _=>⟨?_,λhlt=>?_,λhge=>?_⟩)
 .exact AG.2 (by show _<=S1.po.room-S1.po.many/\S1.po.room-S1.po.many<=_;omega)
 .have hlt:S1.po.room-S1.po.many<(K.length:Int):=hlt;refine h7 S1 H2 ?_ s2 i1 chg1 (f1.trans f2 c1.bl c1.bp c1.tb) c1.lv;have:0<L.length:=by omega
  obtain⟨t,ht⟩:=List.exists_mem_of_length_pos this;have hd:=GZ (l3 t ht).nd;rw[c1.A6]at hd;split at hd
  .cases hd
  .exact⟨_,_,hd⟩
 have hge:¬S1.po.room-S1.po.many<(K.length:Int):=hge;have cx:Cx S1 x y L K:=⟨i1,Ww hI c1,⟨ix.1,ix.2.1⟩,⟨iy.1,iy.2.1⟩,by rw[ix.2.2,iy.2.2];omega,l1,l3,l4,k1,k3,by omega⟩
 have hx':x.toNat<S1.tb.length:=by have:=ix.2.1;unfold B4.n at this;omega
 have hy':y.toNat<S1.tb.length:=by have:=iy.2.1;unfold B4.n at this;omega
 refine⟨_,s2.st,rfl,?_⟩;refine VA s2.lv hxs hys ⟨ix.1,by rw[i1.ll];exact hx'⟩ ⟨iy.1,by rw[i1.ll];exact hy'⟩ (by omega) λ_=>?_;obtain⟨s3,f3⟩:=s2.A2e (swL S1.lv k x y);refine⟨λn z H'=>n=L.length-z.1/\z.1<=L.length/\∃S',Ctt S1 (swL S1.lv k x y) x L z.1 S'/\BX H' b S'/\PJ b S1 H1 H',⟨_,rfl,Nat.zero_le _,{S1 with lv:=swL S1.lv k x y},⟨rfl,i1.tn,λlo hi i=>?_,λv hv _=>i1.tg v hv⟩,s3,f2.trans f3.n rfl rfl rfl⟩,?_⟩
 .have:=i1.tg x.toNat hx' lo hi i;rw[show ((x.toNat:Nat):Int)=x by omega]at this;simpa using this
 rintro n ⟨q,_⟩ H3 ⟨hn0,hq0,S3,ct,s3,f3⟩;have hn:n=L.length-q:=hn0;have hq:q<=L.length:=hq0;replace ct:Ctt S1 (swL S1.lv k x y) x L q S3:=ct;clear hn0 hq0;have tb3:S3.tb=S1.tb:=by rw[ct.eq]
 refine⟨λhql _=>?_,λhql _=>?_⟩
 .have hql':q<L.length:=hql;obtain⟨e1,ct2⟩:=ct.step cx hql';have hx3:x.toNat<S3.tb.length:=by rw[tb3];exact hx'
  refine⟨hql',_,s3.st,λ_=>⟨λ_=>ix.1,by simpa [B4.ob] using hx3,by simpa [B4.ob] using hx3,rfl,?_⟩⟩;have hob:S3.ob.tables[x.toNat]'(by simpa [B4.ob] using hx3)=some S3.tb[x.toNat]:=by simp [B4.ob]
  rw[hob];refine UX (s3.ta _ hx3) e1 ⟨by show q+1<=_;omega,L.length-(q+1),by omega,rfl,by show q+1<=_;omega,_,ct2,(s3.Ala hx3 _).1,f3.trans (s3.Ala hx3 _).2.n (by rw[ct.eq]) (by rw[ct.eq]) tb3⟩
 have hql':¬q<L.length:=hql;have:q=L.length:=by omega
 subst this;obtain⟨m0,sc0⟩:=ct.mid cx;have hrb1:∀i,Fl S1.po i<=576460752303423488:=λi=>by rw[c1.rf];exact hrb i
 refine⟨λn z H'=>n=L.length-z.1/\z.1<=L.length/\∃S',X9 S1 x y L K z.1 S'/\SC S' (Fl S1.po)/\BX H' b S'/\PJ b S1 H1 H'/\S'.lv=swL S1.lv k x y,⟨_,rfl,Nat.zero_le _,S3,m0,sc0,s3,f3,by rw[ct.eq]⟩,?_⟩;rintro n2 ⟨q,_⟩ H4 ⟨hn0,hq0,S4,m4,sc4,s4,f4,v4⟩;have hn2:n2=L.length-q:=hn0;have hq:q<=L.length:=hq0;replace m4:X9 S1 x y L K q S4:=m4;clear hn0 hq0;refine⟨λhql _=>?_,λhql=>?_⟩
 .have hql':q<L.length:=hql;refine⟨hql',?_⟩;exact Amr (N:=λH'=>q+1<=9223372036854775807/\∃m,m<n2/\(m=L.length-(q+1)/\q+1<=L.length/\∃S',X9 S1 x y L K (q+1) S'/\SC S' (Fl S1.po)/\BX H' b S'/\PJ b S1 H1 H'/\S'.lv=swL S1.lv k x y)) cx hrb1 m4 hql' sc4 s4 λS5 H5 m5 sc5 s5 f5 v5=>⟨by omega,L.length-(q+1),by omega,rfl,by omega,S5,m5,sc5,s5,f4.trans f5.n m4.bl m4.bp m4.tb,v5.trans v4⟩
 .have hql':¬q<L.length:=hql;have:q=L.length:=by omega
  subst this;obtain⟨i4,chg4⟩:=m4.si cx hxs hys sc4 v4;refine GI s4 i4 λS5 H5 _ s5 i5 c5 f5=>?_;have hl0:S.lv=S1.lv:=c1.lv.symm;refine h S5 H5 x y (by omega) (by omega) (by rw[t0,hl0];exact hxs) (by rw[t0,hl0];exact hys) s5 i5 ((chg1.trans chg4).trans (UH i4 i5 c5)) ?_ (by rw[t0,c5.lv,v4,hl0]) (Ww i4 c5);exact(f1.trans f4 c1.bl c1.bp c1.tb).trans f5 (m4.bl.trans c1.bl) (m4.bp.trans c1.bp) (m4.tb.trans c1.tb)
end
end Go.Proofs.YtcbkbpjlbmalmaaGreatDoor
namespace Go.Proofs.YtcbkbpjlbmalmaaGreatDoor
open Go Go.X Go.Y Go.RowKit
section
set_option maxRecDepth 100000
abbrev XG:Fb:={err:=(0:Int),event:=false,ev:={El:=(0:Int),Kind:=(0:Int),Level:=(0:Int):Bz}}
variable {w:World}
theorem Yb{P:Program}{f:Fr}{t ty:TypeId}{a:Nat}{v:Value}{p:Addr}{pos:String}{af:Array Edge}{d:Option Tmp}(h:(execOp (ev f) ⟨d,.load t (.tmp a),ty,pos,af,none⟩).run P w=.ok (.value v) w)(hp:f a=.pointer (some p)):(loadVar t p).run P w=.ok v w:=by
 simp only[execOp,Instr.loadAt,X.ev,hp,Instr.sureAddr,Sem.run_bind,Sem.run_pure,Result.andThen_ok]at h;cases hl:(loadVar t p).run P w with
 |ok u w'=>rw[hl]at h;simp only[Result.andThen_ok,Result.ok.injEq,Next.value.injEq]at h;rw[h.1,h.2]
 |halt x w'=>rw[hl]at h;simp [Result.andThen]at h
theorem Aun{ρ:Operand->Value}{x:Operand}{g:Fn}{cap:Array Value}{t:TypeId}{P:Program}{ats:Array TypeId}(h:ρ x=.func g #[] cap):(resolve ρ {callee:=.value x,args:=#[],argTypes:=ats} t).run P w=.ok ⟨.fn g cap,#[]⟩ w:=by simp [resolve,h,Deferred.ofValue]
theorem Afy{bs bd:Nat}{us:List Value}{b:Bool}{f:Fr}{row:Array Value}{es ed:TypeId}{I:BY}{T:Bh}(h4:f 4=.pointer (some ⟨bs,0,none⟩))(h5:f 5=.pointer (some ⟨bd,0,none⟩))(hs:St I w ([(bs,.cells row es (0,0))]++([(bd,.cells #[.bool b] ed (0,0))]++T)))(hr:row.toList=us)(hl:us.length=5):∀a,Is 13 a f->(results Tryz.f227 a).run Y0.P w=.ok (.tuple #[.agg ⟨us⟩,.bool b]) w:=by
 intro a ha;have h231:Pg Y0.P 231 true 5=true:=by kernel_rfl
 have e1:(loadVar 231 ⟨bs,0,none⟩).run Y0.P w=.ok (.agg ⟨us⟩) w:=Yb (f:=f) (a:=4) (Ie (ty:=0) (λpos af K hk=>RJ (n:=5) h231 hs (by exact h4) (vs:=us) (by rw[hr,<-hl];simp) hl hk) none "" #[]) h4;have e2:(loadVar 4 ⟨bd,0,none⟩).run Y0.P w=.ok (.bool b) w:=Yb (f:=f) (a:=5) (Ie (ty:=0) (λpos af K hk=>U7 (by kernel_rfl) hs.Xe (by exact h5) rfl hk) none "" #[]) h5;have g4:a.getD 4 undef=.pointer (some ⟨bs,0,none⟩):=by rw[ha.2 4,h4]
 have g5:a.getD 5 undef=.pointer (some ⟨bd,0,none⟩):=by rw[ha.2 5,h5]
 have hR:Tryz.f227.results.toList=[.cell 4 231,.cell 5 4]:=rfl;refine Gx (vs:=[.agg ⟨us⟩,.bool b]) ?_;rw[hR];simp [List.mapM_cons,PU,g4,g5,asAddr,e1,e2]
noncomputable def A15(X:PX):Env Y0:={N:=13,NY:=QT,sigs:=sg,pf:=pfT,X:=X,lp:=[],jn:=[],pr:=[(10,Ei)],im:=[]}
theorem Agd{ops:Array Oper}{t:Nat}(h:ops.toList.all (λo=>o.dst != some t)=true):Aj0 ops t:=λi o ho=>by have:=List.all_eq_true.1 h o (by rw[Array.getElem?_eq_some_iff]at ho;obtain⟨h1,h2⟩:=ho;rw[<-h2];simp);simpa using this
def Aym(m:Option Nat)(op:FT Y0 [.ptr] [])(H:HY):Cf Y0:={fr:=[(0,.ptr 0 m),(1,.fn [.ptr] [] op)],sg:=[],nx:=1,H:=H,op:=none,hs:=[],pt:=[4,5]}
theorem Ael{bm:Option Nat}{op:FT Y0 [.ptr] []}{H:HY}{Q:Fb×Bool×Unit->UU}{X:PX}(h:∀b,H b=none->op (some b,()) (Ac H b (Ob.st (Y:=Y0) Ei (⟨bm⟩:D4))) (λ_ H'=>Q (XG,true,()) () H') (λt l H'=>∃st:Fb,t=231/\l=⟨.u 15,st⟩/\Q (st,false,()) () H')):Wp Y0 Sr I5 (bm,op,()) H Q X:=by
 intro I w T A AH vs hargs hH hst;have hlen:=ZP hargs;have hz:∃z,zrB Y0.P 231 z/\z.cells.size=5:=⟨.agg #[.int .i64 0,.bool false,.int .i64 0,.int .i64 0,.int .i64 0],by unfold zrB;kernel_rfl,rfl⟩
 obtain⟨z,hz1,hz2⟩:=hz;have hzb:zrB Y0.P 4 (.bool false):=by unfold zrB;kernel_rfl
 obtain⟨v0,vs0,e0,hr0,v1,vs1,e1,hr1,e2,e3⟩:=hargs;subst e3 e2 e1 e0;obtain⟨x1,s1⟩:=hst.alloc (.cells z.cells 231);obtain⟨x2,s2⟩:=s1.alloc (.cells (Value.bool false).cells 4);refine QA (F:=Tryz.f227) (N:=13) (by kernel_rfl) rfl rfl rfl ?_;generalize hf0:WI [v0,v1]=f0;have f00:f0 0=v0:=by rw[<-hf0];rfl
 have f01:f0 1=v1:=by rw[<-hf0];rfl
 have fin:∀{I':BY}{w':World}{AH':Bh}{H':HY}{st:Fb}{b:Bool}{us:List Value},Ext I w I' w'->St I' w' (AH'++T)->Hk (P2 Y0) I' w' H' AH'->rp Y0.toUS (.u 15) I' w' (.agg ⟨us⟩) st->Q (st,b,()) () H'->
   (Ahw I w (λv I' w'=>∃AH' A' H',St I' w' (AH'++(A'++T))/\Hk (P2 Y0) I' w' H' AH'/\∃b io us A1 A2,A'=A1++A2/\v=JX us/\ReR Y0 I' w' I5.res b us A1/\IoR Y0 I' w' I5.args io [v0,v1] A2/\Q b io H') (λv I' w'=>∃AH' H' t l u,St I' w' (AH'++T)/\Hk (P2 Y0) I' w' H' AH'/\v=.iface t u/\rp Y0.toUS l.t I' w' u l.x/\X t l H')) (.returned (.tuple #[.agg ⟨us⟩,.bool b])) w':=λ{I' w' AH' H' st b us}k1 k2 k3 k4 k5=>
  .inl ⟨_,I',rfl,k1,AH',[],H',k2,k3,(st,b,()),(),[.agg ⟨us⟩,.bool b],[],[],rfl,rfl,⟨_,_,rfl,k4,_,_,rfl,GO.2 rfl,rfl,rfl⟩,rfl,k5⟩
 refine D8 (CK (Ay (Th hz1 _ _ _ _) (Ay (Th hzb _ _ _ _) ?_)));have hsz:(w.alloc (.cells z.cells 231)).heap.size=w.heap.size+1:=by simp
 rw[hsz]at s2 ⊢;generalize w.heap.size=bs at s1 s2 ⊢;generalize hw2:(w.alloc (.cells z.cells 231)).alloc (.cells (Value.bool false).cells 4)=w2 at s2 x2 ⊢;generalize hf1:put 13 (put 13 f0 (some 4) (.pointer (some ⟨bs,0,none⟩))) (some 5) (.pointer (some ⟨bs+1,0,none⟩))=f1;have f10:f1 0=v0:=by rw[<-hf1,Bf (by decide),Bf (by decide),f00]
 have f11:f1 1=v1:=by rw[<-hf1,Bf (by decide),Bf (by decide),f01]
 have f14:f1 4=.pointer (some ⟨bs,0,none⟩):=by rw[<-hf1,Bf (by decide),Dr (by decide)]
 have f15:f1 5=.pointer (some ⟨bs+1,0,none⟩):=by rw[<-hf1,Dr (by decide)]
 clear hf1;refine D8 (ZZ (os:=[_]) rfl rfl (Vs rfl rfl ?_));refine⟨⟨.fn (.func 256) #[.pointer (some ⟨bs+1,0,none⟩),.pointer (some ⟨bs,0,none⟩)],#[]⟩,w2,?_,?_⟩
 .have h6:(put 13 f1 (some 6) (.func (.func 256) #[] ⟨[f1 5,f1 4]⟩)) 6=.func (.func 256) #[] ⟨[f1 5,f1 4]⟩:=Dr (by decide);have h6':ev (put 13 f1 (some 6) (.func (.func 256) #[] ⟨[f1 5,f1 4]⟩)) (.tmp 6)=.func (.func 256) #[] ⟨[f1 5,f1 4]⟩:=h6;have hv:ev (put 13 f1 (some 6) (.func (.func 256) ⟨List.map (ev f1) (#[]:Array Operand).toList⟩ ⟨List.map (ev f1) (#[.tmp 5,.tmp 4]:Array Operand).toList⟩)) (.tmp 6)=.func (.func 256) #[] #[.pointer (some ⟨bs+1,0,none⟩),.pointer (some ⟨bs,0,none⟩)]:=h6'.trans (by rw[f15,f14]);exact Aun hv
 generalize hf2:put 13 f1 (some 6) _=f2;have f20:f2 0=v0:=by rw[<-hf2,Bf (by decide),f10]
 have f21:f2 1=v1:=by rw[<-hf2,Bf (by decide),f11]
 have f24:f2 4=.pointer (some ⟨bs,0,none⟩):=by rw[<-hf2,Bf (by decide),f14]
 have f25:f2 5=.pointer (some ⟨bs+1,0,none⟩):=by rw[<-hf2,Bf (by decide),f15]
 clear hf2;have x12:=x1.trans x2;let gi:B3:={I:=I,w:=w,n:=0,μ:=λ_=>undef,φ:=WI [v0,v1]}
 let g:B3:={I:=I,w:=w2,n:=1,μ:=λ_=>v0,φ:=f2}
 have hr:RG gi ((bs+1,.cells (Value.bool false).cells 4 (0,0))::(bs,.cells z.cells 231 (0,0))::T) (Aym bm op H) f2 g AH []:=by
  refine⟨rfl,x12,?_,?_,rfl,λx hx=>(by cases hx),λt ht=>rfl,?_⟩
  .have:St I w2 ((bs+1,.cells (Value.bool false).cells 4 (0,0))::((bs,.cells z.cells 231 (0,0))::(AH++([]++T)))):=s2;have pp:∀a b:Nat×Obj,(a::b::(AH++([]++T))).Perm (AH++([]++(a::b::T))):=λa b=>List.perm_append_comm_assoc [a,b] AH T;exact this.perm (pp _ _)
  .exact Hk.mono hH x12
  .intro i a hi;unfold Aym Hu at hi;dsimp only at hi;split at hi
   .rename_i e;cases hi;subst e;exact⟨Nat.zero_lt_one,rfl.trans f20.symm,by rw[f20];exact KN.1 hr0⟩
   .unfold Hu at hi;split at hi
    .rename_i e;cases hi;subst e;show FvR _ _ _ _ _ _ _;rw[f21];exact Go.Y.FvR.mono Y0 x12 hr1
    .cases hi
 let X1:PX:=λt l H'=>∃st:Fb,t=231/\l=⟨.u 15,st⟩/\Q (st,false,()) () H';let B:Bh:=(bs+1,.cells (Value.bool false).cells 4 (0,0))::(bs,.cells z.cells 231 (0,0))::T;let Rp:List PanicEntry->World->Prop:=λch w'=>∃u st I' AH' H',ch=[{v:=.iface 231 u,recovered:=false}]/\Ext I w I' w'/\rp Y0.toUS (.u 15) I' w' u st/\St I' w' (AH'++B)/\Hk (P2 Y0) I' w' H' AH'/\Q (st,false,()) () H';have hPan:GC gi B X1 Rp:=by intro v w' I' AH' H' t l u k1 k2 k3 k4 k5 ⟨st,k6,k7,k8⟩;subst k6 k7 k4;exact⟨u,st,I',AH',H',rfl,k1,k5,k2,k3,k8⟩
 have inv:∀w',(invoke (.fn (.func 256) #[.pointer (some ⟨bs+1,0,none⟩),.pointer (some ⟨bs,0,none⟩)]) #[]).run Y0.P w'=.ok (.enter 256 ⟨[.pointer (some ⟨bs+1,0,none⟩),.pointer (some ⟨bs,0,none⟩)]⟩) w':=λw'=>by
  have hc:CU Y0.P 256=true:=by kernel_rfl
  simp [invoke,Mv hc]
 have frm:∀{I':BY}{w':World}{AH':Bh}{a b:Nat×Obj},St I' w' (AH'++(a::b::T))->St I' w' ([b]++([a]++(AH'++T))):=λ{I' w' AH' a b}h=>
  h.perm (((List.perm_append_comm_assoc AH' [a,b] T)).trans (List.Perm.swap _ _ _))
 refine D8 (TH (Rp:=Rp) (λch w' f' hf'⟨u,st,I',AH',H',k1,k2,k3,k4,k5,k6⟩=>?_) (Rm (E:=A15 X1) (g0:=gi) (g:=g) (T:=B) hPan _ hr (k:=λc'=>Fu (NQ [4,5] c'.pt) (cls c' λc=>Q (XG,true,()) () c.H)) (Eq.mp (by kernel_rfl) h) λc' f' g' AH' A' hle hr' hx'=>?_))
 .subst k1;have f4:f' 4=.pointer (some ⟨bs,0,none⟩):=by rw[hf' 4 (Agd rfl),f24]
  have f5:f' 5=.pointer (some ⟨bs+1,0,none⟩):=by rw[hf' 5 (Agd rfl),f25]
  show Lv _ _ _ _ _ [_] _ _;refine⟨by simp,.inr ⟨_,_,256,_,rfl,inv w',CallsD.mono (Aky (frm k4) ?_ k3) ?_⟩⟩
  .exact hz2
  .rintro e u' w'' ⟨rfl,rfl,x3,row,hrow,s3⟩;obtain⟨us,rfl,hF⟩:=Hq.1 k3;have hus:us.length=5:=by rw[hF.len];rfl
   exact⟨_,Afy f4 f5 s3 hrow hus,fin (k2.trans x3) s3.drop.drop (Hk.mono k5 x3) (EX x3 k3) k6⟩
 obtain⟨hsub,hx'⟩:=AM hx';obtain⟨c1,g1,AH1,A1,hq,hw1,hle1,h1,_,hop1⟩:=D0 hr' hx';rw[<-hw1];have f4:f' 4=.pointer (some ⟨bs,0,none⟩):=(hr'.pt 4 (Pj hsub rfl)).trans (by rw[hle.φ];exact f24);have f5:f' 5=.pointer (some ⟨bs+1,0,none⟩):=(hr'.pt 5 (Pj hsub rfl)).trans (by rw[hle.φ];exact f25);have hb:Ar8 c1 231 #[] (λa=>a=.dat (.u 15) XG)=((AV.dat (.u 15) XG:AV Y0)=.dat (.u 15) XG):=by kernel_rfl
 obtain⟨v,a,rfl,hv,hy⟩:=Aho (ty:=231) (t:=231) (ps:=#[]) h1 (hb▸rfl);have hv:rp Y0.toUS (.u 15) g1.I g1.w v XG:=hv;obtain⟨us,rfl,hF⟩:=Hq.1 hv;have hus:us.length=5:=by rw[hF.len];rfl
 have huc:(Value.agg ⟨us⟩).cells=⟨us⟩:=rfl;have hone:∀v∈(Value.agg ⟨us⟩).cells.toList,v.oneCell'=true:=W7 hF Pv;have h231:Pg Y0.P 231 true 5=true:=by kernel_rfl
 have h4b:Pg Y0.P 4 false 1=true:=by kernel_rfl
 have s3:=frm (AH':=AH1++A1) (by rw[List.append_assoc];exact h1.st);obtain⟨w3,row3,r3,x3,s4,hr3⟩:=Go.Y.storeCells (P:=Y0.P) (t:=231) (y:=.agg ⟨us⟩) (o:=0) (n:=5) h231 s3 (by rw[huc];exact hus) hone (by show 0+5<=z.cells.size;omega);have hr3':row3.toList=us:=by
  rw[hr3,huc];have:z.cells.toList.length=5:=by simpa using hz2
  simp [List.drop_eq_nil_of_le,this]
 obtain⟨w4,row4,r4,x4,s5,hr4⟩:=Go.Y.storeCells (P:=Y0.P) (t:=4) (y:=.bool true) (o:=0) (n:=1) h4b s4.Xe rfl (by intro v hv;simp [Value.cells]at hv;subst hv;rfl) (by decide);have hr4':row4=#[.bool true]:=by apply Array.toList_inj.1;rw[hr4];rfl
 subst hr4';refine D8 (CK (Ay (hy g1.w _ _ _ _) (MX (YP (p:=.pointer (some ⟨bs,0,none⟩)) (v:=.agg ⟨us⟩) ?_ ?_ r3 _ _ _ _) (MX (YP (p:=.pointer (some ⟨bs+1,0,none⟩)) (v:=.bool true) ?_ rfl r4 _ _ _ _) ?_))))
 .show put 13 f' (some 12) (.agg ⟨us⟩) 4=_;rw[Bf (by decide),f4]
 .exact Dr (by decide)
 .show put 13 f' (some 12) (.agg ⟨us⟩) 5=_;rw[Bf (by decide),f5]
 generalize hg:put 13 (put 13 (put 13 f' (some 12) (.agg ⟨us⟩)) none undef) none undef=f2';have f24':f2' 4=.pointer (some ⟨bs,0,none⟩):=by rw[<-hg];show put 13 f' (some 12) (.agg ⟨us⟩) 4=_;rw[Bf (by decide),f4]
 have f25':f2' 5=.pointer (some ⟨bs+1,0,none⟩):=by rw[<-hg];show put 13 f' (some 12) (.agg ⟨us⟩) 5=_;rw[Bf (by decide),f5]
 refine MW ?_;show Lv _ _ _ _ _ [_] _ _;refine⟨by simp,.inr ⟨_,_,256,_,rfl,inv w4,CallsD.mono (Akx s5) ?_⟩⟩;rintro e u' w'' ⟨rfl,rfl,rfl⟩;have hH1:=h1.hr;rw[hop1]at hH1;have s7:St g1.I w'' (AH1++(A1++T)):=by have:=s5.Xe.drop.drop;rw[List.append_assoc]at this;exact this
 exact⟨_,Afy f24' f25' s5.Xe hr3' hus,fin (h1.le.trans (x3.trans x4)) (DD s7) (Hk.mono hH1 (x3.trans x4)) (EX (x3.trans x4) hv) hq⟩
end
end Go.Proofs.YtcbkbpjlbmalmaaGreatDoor
namespace Go.Proofs.YtcbkbpjlbmalmaaGreatDoor
open Go Go.X Go.Y
section
def Kd(b:Nat)(M:Mn)(H H':HY):Prop:=∀c,H c≠none->c≠b->c≠M.mb->c≠M.sb->c≠M.S.bl->c≠M.S.bp->c∉M.S.tb->H' c=H c
variable {b:Nat} {M:Mn} {H H':HY}
theorem JD.h(f:JD b M H H'):Kd b M H H':=λc _ a1 a2 a3 a4 a5 a6=>f c a1 a2 a3 a4 a5 a6
theorem PJ.frh(f:PJ M.sb M.S H H'):Kd b M H H':=λc a0 _ _ a3 a4 a5 a6=>f c a0 a3 a4 a5 a6
theorem Kd.refl:Kd b M H H:=λ_ _ _ _ _ _ _ _=>rfl
variable {M':Mn}
theorem Kd.trans{H'':HY}(h:Kd b M H H')(k:Kd b M' H' H'')(e:DN M M'):Kd b M H H'':=λc a0 a1 a2 a3 a4 a5 a6=>by have e1:=h c a0 a1 a2 a3 a4 a5 a6;rw[k c (by rw[e1];exact a0) a1 (by rw[e.mb];exact a2) (by rw[e.sb];exact a3) (by rw[e.bl];exact a4) (by rw[e.bp];exact a5) (by rw[e.tb];exact a6),e1]
theorem JC.KR(h:JC H b M)(f:∀c,H c≠none->H' c=H c):JC H' b M:=
 ⟨by rw[f _ (by rw[h.ob];simp)];exact h.ob,h.st.KR f,by rw[f _ (by rw[h.me];simp)];exact h.me⟩
def Mn.ws_(M:Mn)(S:B4):Mn:={M with S:=S}
theorem JC.Tf{S:B4}(h:JC H b M)(hS:BX H' M.sb S)(f:PJ M.sb M.S H H'):JC H' b (M.ws_ S):=by
 have key:∀{c m:Nat}{x:Y0.O m},H c=some (.st m x)->m≠AA->m≠CF->m≠CR->m≠BC->H' c=some (.st m x):=λ{c m x}hc h1 h2 h3 h4=>by
  rw[f c (by rw[hc];simp) (Bj hc h.st.st h1) (Bj hc h.st.lv h2) (Bj hc h.st.po h3) (λhm=>?_)]
  .exact hc
  .obtain⟨v,hv,e⟩:=List.mem_iff_getElem.1 hm;exact Bj hc (h.st.ta v hv) h4 e.symm
 exact⟨key h.ob (by decide) (by decide) (by decide) (by decide),hS,key h.me (by decide) (by decide) (by decide) (by decide)⟩
theorem JC.Auj(h:JC H b M)(m:By):JC (Ac H M.mb (.st BU m)) b (M.wm m)/\JD b M H (Ac H M.mb (.st BU m)):=by
 refine⟨⟨?_,?_,Ai _ _ _⟩,λx _ a2 _ _ _ _=>Af _ _ a2⟩
 .rw[Af _ _ (Bj h.ob h.me (by decide))];exact h.ob
 .exact h.st.other h.me (by decide) (by decide) (by decide) (by decide)
structure Kp(M M':Mn):Prop where
 bs:DN M M'
 hs:M'.hs=M.hs
 nx:M'.nx=M.nx
 room:M'.S.po.room=M.S.po.room
 A9:∀g,M'.A9 g=M.A9 g
 ws:M'.ws.length<=M.ws.length
theorem Kp.refl:Kp M M:=⟨.refl,rfl,rfl,rfl,λ_=>rfl,Nat.le_refl _⟩
theorem Kp.trans{M'':Mn}(h:Kp M M')(k:Kp M' M''):Kp M M'':=⟨h.bs.trans k.bs,k.hs.trans h.hs,k.nx.trans h.nx,k.room.trans h.room,λg=>(k.A9 g).trans (h.A9 g),Nat.le_trans k.ws h.ws⟩
theorem Kp.n(h:Kp M M'):M'.S.n=M.S.n:=by unfold B4.n;rw[h.bs.tb]
theorem MR.kp(hI:MI M)(h:MR M M')(hw:M'.ws.length<=M.ws.length):MI M'/\Kp M M':=by obtain⟨h1,h2⟩:=hI.ext h.hs h.nx h.si h.se;exact⟨h1,h.bs,h.hs,h.nx,h.se.room,h2,hw⟩
theorem MI.held(h:MI M){g e:Int}(he:Ae M.hs g=some e):e/2=0∨0<Fl M.S.po (e/2):=by
 by_cases h0:e/2=0
 .exact .inl h0
 .right;rw[h.rf _ h0];have key:∀{m:List (Int×Int)}{g:Int},Ae m g=some e->0<JQ m (e/2):=by
   intro m;induction m with
   |nil=>intro g h;cases h
   |cons p m ih=>
    intro g h;have h:(if p.1=g then some p.2 else Ae m g)=some e:=h;have h1:=@B.G8 p.2 (e/2);have h2:=@Pu (e/2) m;simp only[JQ];split at h
    .cases h;have:=@B.GU p.2;omega
    .have:=ih h;omega
  exact key he
theorem MI.chg(h:MI M){S:B4}(hS:SI S)(c:Y4 M.S S):MI (M.ws_ S)/\Kp M (M.ws_ S):=by have key:∀{g e},Ae M.hs g=some e->B.Ok (A6 S.po) e/\B.den (A6 S.po) e=B.den (A6 M.S.po) e:=λ{g e}he=>c.ok e (h.ok g e he).1 (h.held he);refine⟨⟨hS,h.nd,λg e he=>⟨(key he).1,(h.ok g e he).2⟩,h.k0,h.k1,h.nx,λi hi=>(c.rf i).trans (h.rf i hi),h.ln⟩,⟨rfl,rfl,c.bl,c.bp,c.tb⟩,rfl,rfl,c.room,λg=>?_,Nat.le_refl _⟩;show (Ae M.hs g).map (B.den (A6 S.po))=(Ae M.hs g).map (B.den (A6 M.S.po));exact Ath λe he=>(key he).2
theorem MV.empty(h1:MeI M.me)(h2:∀e,XA M.me e->e.full=false):MV M:=⟨h1,λe he hf _=>by rw[h2 e he]at hf;cases hf⟩
def Mn.fs(M:Mn):List B.Fn:=M.hs.map λp=>B.den M.T p.2
theorem MI.Aw7(h:MI M)(hl:∀i d,M.T i=some d->0<FD M.S.cn i):B.Rh M.S.n M.lv M.T M.fs:=by
 refine h.si.sc.cn.Aw7 h.si.BP B4.JO hl λi d hd hr=>?_;have hi0:=(h.si.BP.var hd).1;rw[h.rf i (by omega)]at hr;have key:∀{m:List (Int×Int)},0<JQ m i->∃p∈m,p.2/2=i:=by
  intro m;induction m with
  |nil=>intro h;simp [JQ]at h
  |cons p m ih=>
   intro h;simp only[JQ]at h;by_cases hp:p.2/2=i
   .exact⟨p,List.mem_cons_self,hp⟩
   .have:B.dl p.2 i=0:=if_neg hp;obtain⟨q,hq,e⟩:=ih (by omega);exact⟨q,List.mem_cons_of_mem _ hq,e⟩
 obtain⟨p,hp,e⟩:=key hr;have ho:=(h.ok p.1 p.2 (Hr h.nd hp)).1;refine⟨_,List.mem_map_of_mem hp,decide (p.2%2=1),λa=>?_⟩;have h4:2*i=B.fl p.2 p.2:=by
  unfold B.fl B.flip;split
  .rename_i h5;rw[if_neg (by omega)];omega
  .omega
 rw[h4,B.IL ho]
theorem MI.Az4(h:MI M):∀f∈M.fs,B.RD M.S.n f:=λf hf=>by obtain⟨p,hp,rfl⟩:=List.mem_map.1 hf;exact h.si.BP.rd (h.ok p.1 p.2 (Hr h.nd hp)).1
theorem Ail{p:Av}(h:Fw p):∃l:List Int,l.Nodup/\(∀i∈l,∃n,Gi p i=some n)/\p.many<=(l.length:Int):=by
 let l:List Int:=((List.range p.at_.length).map λk:Nat=>(k:Int)).filter λi=>Nr p i;refine⟨l,?_,λi hi=>?_,?_⟩
 .refine List.Pairwise.filter _ ?_;rw[List.pairwise_map];exact List.nodup_range.imp λh e=>h (by omega)
 .obtain⟨n,hn,_⟩:=(h.tk (List.mem_filter.1 hi).2).2.2;exact⟨n,hn⟩
 .have key:(((List.range (p.at_.length-1)).map λk:Nat=>((k+1:Nat):Int))).length<=(l++p.free).length:=by
   refine Ih ?_ λi hi=>?_
   .rw[List.Nodup,List.pairwise_map];exact List.nodup_range.imp λh e=>h (by omega)
   .obtain⟨k,hk,rfl⟩:=List.mem_map.1 hi;have hk:=List.mem_range.1 hk;have hk1:k+1<p.taken.length:=by rw[<-h.ln];omega
    cases ht:p.taken[k+1] with
    |true=>
     refine List.mem_append_left _ (List.mem_filter.2 ⟨List.mem_map.2 ⟨k+1,List.mem_range.2 (by omega),rfl⟩,?_⟩);show Nr p _=true;rw[Zk hk1,ht]
    |false=>exact List.mem_append_right _ (h.al (k+1) (by omega) (by rw[List.getElem?_eq_getElem hk1,ht]))
  rw[List.length_map,List.length_range,List.length_append]at key;have:=h.cnt;have:=h.pos;omega
theorem Ap5(h:SI M.S)(h8:M.S.n<=8){R:List B.Fn}(hR:∀f∈R,B.RD M.S.n f)(hc:B.Rh M.S.n M.lv M.T R):M.S.po.many<=65536+15*(R.length:Int):=by
 obtain⟨l,h1,h2,h3⟩:=Ail h.sc.po;have:=B.Rh.few h.BP B4.JO h8 hR hc l h1 λi hi=>by obtain⟨n,hn⟩:=h2 i hi;exact⟨_,GZ hn⟩
 omega
theorem V7{X:PX}{Q:Int×Unit->UU}(hM:JC H b M)(hI:MI M)(hV:MeI M.me)(h:∀M' H' k,JC H' b M'->MI M'->MV M'->Kp M M'->M'.ws=M.ws->(∀i d,M'.T i=some d->0<FD M'.S.cn i)->Kd b M H H'->Q (k,()) () H'):Wp Y0 Jo GM (some b,()) H Q X:=by apply T4;unfold MN;refine⟨λh=>absurd h (by simp),λ_=>⟨b,rfl,M.ob,hM.ob,rfl,LW hM.me hV λm' hm' hf=>?_⟩⟩;obtain⟨h1,f1⟩:=hM.Auj m';refine⟨_,h1.ob,rfl,GI h1.st hI.si λS' H' k s1 i1 c1 f2=>?_⟩;obtain⟨k1,k2⟩:=hI.chg i1 (UH hI.si i1 c1);refine h ((M.wm m').ws_ S') H' k (h1.Tf s1 f2) ⟨i1,k1.nd,k1.ok,k1.k0,k1.k1,k1.nx,k1.rf,k1.ln⟩ (MV.empty hm' hf) ⟨⟨rfl,rfl,k2.bs.bl,k2.bs.bp,k2.bs.tb⟩,k2.hs,k2.nx,k2.room,k2.A9,k2.ws⟩ rfl (Ww hI.si c1) ?_;exact f1.h.trans (M':=M.wm m') (PJ.frh (M:=M.wm m') f2) ⟨rfl,rfl,rfl,rfl,rfl⟩
theorem Abr{level:Int}{X:PX}{Q:Int×Unit->UU}(hM:JC H b M)(hI:MI M)(hV:MeI M.me)(hn:M.nx<576460752303423488)(h2:¬(0<=level/\level<M.S.n-1)->∀M' H',JC H' b M'->MI M'->MV M'->Kp M M'->M'.ws=M.ws->Kd b M H H'->Q (2,()) () H')(h7:∀M' H',(∃i d,M.T i=some d)->JC H' b M'->MI M'->MV M'->Kp M M'->M'.ws=M.ws->Kd b M H H'->Q (7,()) () H')(h:∀M' H'(x y:Int),0<=level->level<M.S.n-1->M.S.lv.vars[level.toNat]?=some x->M.S.lv.vars[level.toNat+1]?=some y->JC H' b M'->MI M'->MV M'->Kp M M'->M'.ws=M.ws->Kd b M H H'->M'.S.lv=swL M.S.lv level.toNat x y->(∀i d,M'.T i=some d->0<FD M'.S.cn i)->Q (0,()) () H'):Wp Y0 Hx FO (some b,level,()) H Q X:=by
 apply Xn;unfold Qk;refine⟨λh=>absurd h (by simp),λ_=>⟨b,rfl,M.ob,hM.ob,rfl,LW hM.me hV λm' hm' hf=>?_⟩⟩;obtain⟨h1,f1⟩:=hM.Auj m';have mk:∀{S' H'},BX H' M.sb S'->SI S'->Y4 M.S S'->PJ M.sb M.S (Ac H M.mb (.st BU m')) H'->JC H' b ((M.wm m').ws_ S')/\MI ((M.wm m').ws_ S')/\MV ((M.wm m').ws_ S')/\Kp M ((M.wm m').ws_ S')/\Kd b M H H':=λ{S' H'}s1 i1 c1 f2=>by obtain⟨k1,k2⟩:=hI.chg i1 c1;exact⟨h1.Tf s1 f2,⟨i1,k1.nd,k1.ok,k1.k0,k1.k1,k1.nx,k1.rf,k1.ln⟩,MV.empty hm' hf,⟨⟨rfl,rfl,k2.bs.bl,k2.bs.bp,k2.bs.tb⟩,k2.hs,k2.nx,k2.room,k2.A9,k2.ws⟩,f1.h.trans (M':=M.wm m') (PJ.frh (M:=M.wm m') f2) ⟨rfl,rfl,rfl,rfl,rfl⟩⟩
 refine⟨_,h1.ob,rfl,PS (S:=M.S) h1.st hI.si (λi=>?_) (λhl=>?_) (λS' H' he s1 i1 c1 f2 _=>?_) λS' H' x y q1 q2 q3 q4 s1 i1 c1 f2 hlv hlive=>?_⟩
 .by_cases e:i=0
  .rw[e,Af7 hI.si.sc.po];omega
  .rw[hI.rf i e];have:=@Pu i M.hs;have:=hI.ln;omega
 .obtain⟨a1,a2,a3,a4,a5⟩:=mk (S':=M.S) h1.st hI.si Y4.refl PJ.refl;exact h2 hl _ _ a1 a2 a3 a4 rfl a5
 .obtain⟨a1,a2,a3,a4,a5⟩:=mk s1 i1 c1 f2;exact h7 _ _ he a1 a2 a3 a4 rfl a5
 .obtain⟨a1,a2,a3,a4,a5⟩:=mk s1 i1 c1 f2;exact h _ _ x y q1 q2 q3 q4 a1 a2 a3 a4 rfl a5 hlv hlive
end
section
def Aos:Prop:=∀(o:List Int)(H:HY)(X:PX)(Q:List Int×Int×Unit->UU),o.length<=64->(∀l e,l.length<=1000000->Q (l,e,()) () H)->Wp Y0 OH L1 (o,()) H (λb _ H'=>Wp Y0 K4 Iz (o,b.1,()) H' Q X) X
def EvK(ev:Bz):Prop:=ev.Kind=1∨ev.Kind=2∨Aos
structure MG(H:HY)(b:Nat)(M:Mn):Prop where
 h:JC H b M
 i:MI M
 v:MV M
 e:∀ev∈M.ws,EvK ev
 n8:M.S.n<=8
 rm:M.S.po.room=1048576
variable {b:Nat} {M:Mn} {H:HY}
theorem Ar3{m':By}{S':B4}{H0 H':HY}(hI:MI M)(h1:JC H b (M.wm m'))(hm':MeI m')(hf:∀e,XA m' e->e.full=false)(f1:Kd b M H0 H)(s1:BX H' M.sb S')(i1:SI S')(c1:Y4 M.S S')(f2:PJ M.sb M.S H H'):JC H' b ((M.wm m').ws_ S')/\MI ((M.wm m').ws_ S')/\MV ((M.wm m').ws_ S')/\Kp M ((M.wm m').ws_ S')/\Kd b M H0 H':=by obtain⟨k1,k2⟩:=hI.chg i1 c1;exact⟨h1.Tf s1 f2,⟨i1,k1.nd,k1.ok,k1.k0,k1.k1,k1.nx,k1.rf,k1.ln⟩,MV.empty hm' hf,⟨⟨rfl,rfl,k2.bs.bl,k2.bs.bp,k2.bs.tb⟩,k2.hs,k2.nx,k2.room,k2.A9,k2.ws⟩,f1.trans (M':=M.wm m') (PJ.frh (M:=M.wm m') f2) ⟨rfl,rfl,rfl,rfl,rfl⟩⟩
theorem Aum(hI:MI M)(hn:M.nx<576460752303423488)(i:Int):Fl M.S.po i<=576460752303423488:=by
 by_cases e:i=0
 .rw[e,Af7 hI.si.sc.po];omega
 .rw[hI.rf i e];have:=@Pu i M.hs;have:=hI.ln;omega
variable {X:PX}
theorem Ot{S:B4}{Q:List Int×Unit->UU}(hS:BX H b S)(hn:S.lv.vars.length<=64)(h:Q (S.lv.vars,()) () H):Wp Y0 DL Dd (some b,()) H Q X:=by apply PD;unfold Ko;refine⟨λh=>absurd h (by simp),λ_=>⟨b,rfl,S.ob,hS.st,S.bl,rfl,rfl,S.lv,hS.lv,by omega,?_⟩⟩;rw[KA hS.lv];exact h
theorem Xh{ev:Bz}{Q:Unit->UU}(hM:JC H b M)(hI:MI M)(hV:MeI M.me)(hn:M.nx<576460752303423488)(hE:EvK ev)(h:∀M' H',JC H' b M'->MI M'->MV M'->Kp M M'->M'.ws=M.ws->Kd b M H H'->Q () () H'):Wp Y0 Kb HA (some b,ev,()) H Q X:=by
 apply Uz;unfold NB;refine⟨b,rfl,M.ob,hM.ob,rfl,LW hM.me hV λm' hm' hf=>?_⟩;obtain⟨h1,f1⟩:=hM.Auj m';have vl:M.S.lv.vars.length<=64:=by have:=hI.si.BP.od.n64;have:=hI.si.vl;unfold B4.n at *;omega
 have swap:∀{S1:B4}{lev:Int}{H1:HY}{Q:Int×Unit->UU},BX H1 M.sb S1->SI S1->Y4 M.S S1->PJ M.sb M.S (Ac H M.mb (.st BU m')) H1->(∀e S2 H2,BX H2 M.sb S2->SI S2->Y4 M.S S2->PJ M.sb M.S (Ac H M.mb (.st BU m')) H2->Q (e,()) () H2)->Wp Y0 Dw CH (some M.sb,lev,()) H1 Q X:=λ{S1 lev H1 Q}s1 i1 c1 f2 hq=>by refine PS s1 i1 (λi=>by rw[c1.rf];exact Aum hI hn i) (λ_=>hq 2 S1 H1 s1 i1 c1 f2) (λS' H' _ s2 i2 c2 f3 _=>hq 7 S' H' s2 i2 (c1.trans c2) (f2.trans f3 c1.bl c1.bp c1.tb)) λS' H' _ _ _ _ _ _ s2 i2 c2 f3 _ _=>hq 0 S' H' s2 i2 (c1.trans c2) (f2.trans f3 c1.bl c1.bp c1.tb)
 have fin:∀{S2 H2},BX H2 M.sb S2->SI S2->Y4 M.S S2->PJ M.sb M.S (Ac H M.mb (.st BU m')) H2->Q () () H2:=λ{S2 H2}s2 i2 c2 f3=>by obtain⟨a1,a2,a3,a4,a5⟩:=Ar3 hI h1 hm' hf f1.h s2 i2 c2 f3;exact h _ H2 a1 a2 a3 a4 rfl a5
 refine⟨λ_=>⟨_,h1.ob,rfl,GI h1.st hI.si λS' H' k s1 i1 c1 f2=>fin s1 i1 (UH hI.si i1 c1) f2⟩,λhk1=>⟨λ_=>⟨_,h1.ob,rfl,swap h1.st hI.si Y4.refl PJ.refl λe S2 H2 s2 i2 c2 f3=>fin s2 i2 c2 f3⟩,λhk2=>⟨_,h1.ob,rfl,Ot h1.st vl ?_⟩⟩⟩;refine(hE.resolve_left hk1).resolve_left hk2 M.S.lv.vars _ X _ vl λl e hl _=>?_;refine⟨λn z H'=>z.1=l/\n=l.length-z.2.1/\z.2.1<=l.length/\∃S1,BX H' M.sb S1/\SI S1/\Y4 M.S S1/\PJ M.sb M.S (Ac H M.mb (.st BU m')) H',⟨_,rfl,rfl,Nat.zero_le _,M.S,h1.st,hI.si,Y4.refl,PJ.refl⟩,?_⟩;rintro n ⟨ys,k,_⟩ H1 ⟨e0,hn0,hk0,S1,s1,i1,c1,f2⟩;have e0:ys=l:=e0;subst e0;have hnk:n=ys.length-k:=hn0;have hk:k<=ys.length:=hk0;clear hn0 hk0;refine⟨λhkl _=>?_,λ_=>fin s1 i1 c1 f2⟩;have hkl':k<ys.length:=hkl;have ob1:=(h1.Tf s1 f2).ob;refine⟨hkl',hkl',_,ob1,rfl,swap s1 i1 c1 f2 λe S2 H2 s2 i2 c2 f3=>⟨by show k+1<=_;omega,ys.length-(k+1),by omega,rfl,rfl,by show k+1<=_;omega,S2,s2,i2,c2,f3⟩⟩
def PK(M M':Mn)(Fs:List B.Fn):Prop:=∀R:List B.Fn,(∀F∈Fs,F∈R)->B.Rh M.S.n M.lv M.T R->B.Rh M'.S.n M'.lv M'.T R
variable {M':Mn} {Fs:List B.Fn}
theorem Lr.l{F:B.Fn}(h:Lr M M' F)(hF:F∈Fs):PK M M' Fs:=λR hR hc=>h R (hR F hF) hc
theorem PK.refl:PK M M Fs:=λ_ _ h=>h
theorem PK.trans{M'':Mn}(h:PK M M' Fs)(k:PK M' M'' Fs):PK M M'' Fs:=λR hR hc=>k R hR (h R hR hc)
def OpS(b:Nat)(M:Mn)(Fs:List B.Fn)(J:HP)(P:Mn->HP)(op:FT Y0 [.ptr] []):Prop:=∀M' H' c(X':PX)(Q':Unit->HP),MS H' c b M'->MI M'->MV M'->Kp M M'->J H'->(∀M'' H'' l,MS H'' c b M''->MR M' M''->PK M' M'' Fs->J H''->X7 M' M'' l->X' 231 l H'')->(∀M'' H'',MS H'' c b M''->MR M' M''->PK M' M'' Fs->J H''->M''.ws=M'.ws->P M'' H''->Q' () H'')->op (some c,()) H' Q' X'
theorem Kd.of_same{H':HY}(f:Kd b M' H H')(e:DN M M'):Kd b M H H':=λc a0 a1 a2 a3 a4 a5 a6=>f c a0 a1 (by rw[e.mb];exact a2) (by rw[e.sb];exact a3) (by rw[e.bl];exact a4) (by rw[e.bp];exact a5) (by rw[e.tb];exact a6)
theorem Kd.new{c:Nat}{o:Ob Y0}(h:H c=none):Kd b M H (Ac H c o):=λd a0 _ _ _ _ _ _=>Af _ _ λe=>a0 (by rw[e];exact h)
theorem V6{J:HP}{P:Mn->HP}{op:FT Y0 [.ptr] []}{Q:Int×Unit->UU}(hM:MG H b M)(hn:M.nx<576460752303423488)(hl:M.hs.length<=60000)(hF:Fs.length<=1000)(hR:∀F∈Fs,B.RD M.S.n F)(hJ:∀H H',J H->Kd b M H H'->J H')(h0:J H)(hop:OpS b M Fs J P op)(hq:∀M' H',MG H' b M'->Kp M M'->M'.ws.length<=M.ws.length->J H'->P M' H'->Q (0,()) () H'):Wp Y0 K7 I7 (some b,op,()) H Q X:=by
 apply ZE;unfold S8;refine⟨λn z H'=>∃M',n=2*M'.ws.length+(if z.1=true then 0 else 1)/\MG H' b M'/\Kp M M'/\J H'/\(z.1=true->B.Rh M'.S.n M'.lv M'.T M'.fs),⟨_,M,rfl,hM,Kp.refl,h0,λh=>by cases h⟩,?_⟩;rintro n ⟨room,_⟩ H1 ⟨M1,hn1,g1,k1,j1,cv1⟩;have hn1:n=2*M1.ws.length+(if room=true then 0 else 1):=hn1;have cv1:room=true->B.Rh M1.S.n M1.lv M1.T M1.fs:=cv1;refine Ael λc hc=>?_;have f1:Kd b M1 H1 (Ac H1 c (Ob.st (Y:=Y0) Ei (⟨some b⟩:D4))):=Kd.new hc;have cx:MS (Ac H1 c (Ob.st (Y:=Y0) Ei (⟨some b⟩:D4))) c b M1:=⟨Ai _ _ _,g1.h.KR λd hd=>Af _ _ λe=>hd (by rw[e];exact hc)⟩
 have mg:∀{M2 H2},JC H2 b M2->MR M1 M2->(M2.ws=M1.ws∨∃ev,M1.ws=ev::M2.ws)->MG H2 b M2/\Kp M1 M2:=λ{M2 H2}h2 st hw=>by
  obtain⟨a1,a2⟩:=st.kp g1.i (by rcases hw with e|⟨ev,e⟩<;>simp [e]);refine⟨⟨h2,a1,st.mv,λev he=>g1.e ev ?_,by rw[a2.n];exact g1.n8,by rw[a2.room];exact g1.rm⟩,a2⟩;rcases hw with e|⟨ev',e⟩
  .rw[<-e];exact he
  .rw[e];exact List.mem_cons_of_mem _ he
 refine hop M1 _ c _ _ cx g1.i g1.v k1 (hJ _ _ j1 (f1.of_same k1.bs)) (λM2 H2 l c2 st cov j2 hp=>?_) λM2 H2 c2 st cov j2 hw hP=>⟨λ_=>?_,λh=>absurd rfl h⟩
 .rcases hp with ⟨rfl,hw,hm⟩|⟨ev,rfl,hw⟩
  .refine⟨_,rfl,rfl,λh=>(by cases h),λ_=>⟨λh=>(by cases h),λ_=>⟨λ_=>⟨λhr=>?_,λhr=>?_⟩,λh=>absurd rfl h⟩⟩⟩
   .obtain⟨g2,k2⟩:=mg c2.NT st (.inl hw);refine V7 g2.h g2.i g2.v.me λM3 H3 k h3 i3 v3 kp3 w3 lv3 f3=>⟨2*M3.ws.length+0,?_,M3,rfl,⟨h3,i3,v3,λev he=>g2.e ev (by rw[<-w3];exact he),by rw[kp3.n];exact g2.n8,by rw[kp3.room];exact g2.rm⟩,(k1.trans k2).trans kp3,hJ _ _ j2 (f3.of_same (k1.trans k2).bs),λ_=>i3.Aw7 lv3⟩
    have hr:¬room=true:=hr;rw[w3,hw,hn1,if_neg hr];omega
   .exfalso;have hr:room=true:=Classical.not_not.1 hr;obtain⟨g2,k2⟩:=mg c2.NT st (.inl hw);have hcov:=cov (Fs++M1.fs) (λF hF=>List.mem_append_left _ hF) ((cv1 hr).mono λf hf=>List.mem_append_right _ hf);have:=Ap5 g2.i.si g2.n8 (R:=Fs++M1.fs) (λf hf=>by
     rw[k2.n];rcases List.mem_append.1 hf with hf|hf
     .rw[k1.n];exact hR f hf
     .exact g1.i.Az4 f hf) hcov
    rw[hm,g2.rm,List.length_append]at this;have hfs:M1.fs.length=M.hs.length:=by unfold Mn.fs;rw[List.length_map,k1.hs]
    rw[hfs]at this;omega
  .obtain⟨g2,k2⟩:=mg c2.NT st (.inr ⟨ev,hw⟩);refine⟨_,rfl,rfl,λh=>(by cases h),λ_=>⟨λ_=>?_,λh=>absurd rfl h⟩⟩;refine Xh g2.h g2.i g2.v.me (by rw[(k1.trans k2).nx];exact hn) (g1.e ev (by rw[hw];exact List.mem_cons_self)) λM3 H3 h3 i3 v3 kp3 w3 f3=>⟨2*M3.ws.length+1,?_,M3,rfl,⟨h3,i3,v3,λev he=>g2.e ev (by rw[<-w3];exact he),by rw[kp3.n];exact g2.n8,by rw[kp3.room];exact g2.rm⟩,(k1.trans k2).trans kp3,hJ _ _ j2 (f3.of_same (k1.trans k2).bs),λh=>by cases h⟩
   rw[w3,hn1,hw,List.length_cons];omega
 .obtain⟨g2,k2⟩:=mg c2.NT st (.inl hw);exact hq M2 H2 g2 (k1.trans k2) (k1.trans k2).ws j2 hP
end
section
set_option maxRecDepth 100000
set_option maxHeartbeats 2000000
theorem mpF{p:Prop}(h:p)(F:Prop)(e:p=F):F:=Eq.mp e h
def Vp(x:Option Nat)(p1:Int)(p2:Option Nat×Int×Int×Unit->HY->(Int×Unit->HP)->PX->Prop)(p3 p4:Int)(p5:Option Nat)(H:HY)(Q:Unit->UU)(X:PX):=Wp Y0 FU EI (x,p1,()) H (λ(b:Int×Unit)_ G=>Wp Y0 FU EI (x,p3,()) G (λ(b1:Int×Unit)_ G=>p2 (x,b.1,b1.1,()) G (λ(b:Int×Unit)(G:HY)=>∃(b2:Nat),p5=some b2/\∃(x1:Bool),G b2=some (Ob.st O9 x1)/\Q () () (Ac G b2 (Ob.st O9 (decide (b.1=p4))))) X) X) X
theorem Aeg x p1 p2 p3 p4 p5 H Q X(h_:Vp x p1 p2 p3 p4 p5 H Q X):Wp Y0 VX Q7 (x,p1,p2,p3,p4,p5,()) H Q X:=wF Tryz.f150 {} h_
def RI(x:Option Nat)(p1:Int)(p2:List Int)(p3:Option Nat×Int×Int×Unit->HY->(Int×Unit->HP)->PX->Prop)(H:HY)(Q:Int×Unit->UU)(X:PX):=p2.length<=9223372036854775807->∃(V:Nat->Int×Nat×Unit->HP),(∃(n:Nat),V n (p1,0,()) H)/\∀n x1 H,V n x1 H->(x1.2.1<p2.length->x1.2.1<=9223372036854775807->∃(h:x1.2.1<p2.length),Wp Y0 FU EI (x,p2[x1.2.1],()) H (λ(b:Int×Unit)_ G=>p3 (x,x1.1,b.1,()) G (λ(b:Int×Unit)(G:HY)=>x1.2.1+1<=9223372036854775807/\∃m,m<n/\V m (b.1,x1.2.1+1,()) G) X) X)/\(¬x1.2.1<p2.length->Q (x1.1,()) () H)
theorem Zm x p1 p2 p3 H Q X(h_:RI x p1 p2 p3 H Q X):Wp Y0 Sp Nh (x,p1,p2,p3,()) H Q X:=wF Tryz.f146 {lp:=[(3,⟨[(6,.one (.dat I6)),(12,.nat)],[0,3,10,11],true⟩)]} h_
def Al2(x:Option Nat)(a b:Int)(H:HY)(Q:Int×Unit->UU)(X:PX):=Wp Y0 CG Cy (x,a,0,b,()) H (λ(b:Int×Unit)_ G=>Q (b.1,()) () G) X
theorem Al1 x a b H Q X(h_:Al2 x a b H Q X):Wp Y0 VW R2 (x,a,b,()) H Q X:=wF Tryz.f77 {} h_
def Abe(m:Option Nat)(f:Option Nat×Int×Int×Unit->HY->(Int×Unit->HP)->PX->Prop)(a b want:Int)(H:HY)(Q:Bool×Int×Unit->UU)(X:PX):=∀(b1:Nat),H b1=none->Wp Y0 Qg LQ (m,λ(a2:Option Nat×Unit)(H:HY)(Q:Unit->HP)(X:Nat->Lf Y0.D->HP)=>Wp Y0 VX Q7 (a2.1,a,f,b,want,some b1,()) H (λ(b x:Unit)(G:HY)=>Q () G) X,()) (Ac H b1 (Ob.st O9 false)) (λ(b:Int×Unit)_ G=>∃(x:Bool),G b1=some (Ob.st O9 x)/\(x=true->x=x/\Q (decide (b.1=0),b.1,()) () G)/\(¬x=true->x=x/\Q (false,b.1,()) () G)) X
theorem Al3 m f a b want H Q X(h_:Abe m f a b want H Q X):Wp Y0 VY R3 (m,f,a,b,want,()) H Q X:=wF Tryz.f76 {pr:=[(12,9)],im:=[6,7,8,9]} h_
def Ais(x:Option Nat)(a b:Int)(H:HY)(Q:Int×Unit->UU)(X:PX):=Wp Y0 CG Cy (x,a,b,1,()) H (λ(b:Int×Unit)_ G=>Q (b.1,()) () G) X
theorem Air x a b H Q X(h_:Ais x a b H Q X):Wp Y0 Pw Ms (x,a,b,()) H Q X:=wF Tryz.f74 {} h_
def Vq(m:Option Nat)(first:Int)(f:Option Nat×Int×Int×Unit->HY->(Int×Unit->HP)->PX->Prop)(l:List Int)(H:HY)(Q:Int×Int×Unit->UU)(X:PX):=Wp Y0 L8 JN (m,λ(a:Option Nat×Unit)(H:HY)(Q:Int×Unit->HP)(X:Nat->Lf Y0.D->HP)=>Wp Y0 Sp Nh (a.1,first,l,f,()) H (λ(b:Int×Unit)(x:Unit)(G:HY)=>Q (b.1,()) G) X,()) H (λ(b:Int×Int×Unit)_ G=>Q (b.1,b.2.1,()) () G) X
theorem Aeh m first f l H Q X(h_:Vq m first f l H Q X):Wp Y0 Nt KK (m,first,f,l,()) H Q X:=wF Tryz.f73 {im:=[5,6,7]} h_
def Al5(m:Option Nat)(l:List Int)(H:HY)(Q:Int×Int×Unit->UU)(X:PX):=Wp Y0 Nt KK (m,1,λ(a:Option Nat×Int×Int×Unit)(H:HY)(Q:Int×Unit->HP)(X:Nat->Lf Y0.D->HP)=>Wp Y0 VW R2 (a.1,a.2.1,a.2.2.1,()) H (λ(b:Int×Unit)(x:Unit)(G:HY)=>Q (b.1,()) G) X,l,()) H (λ(b:Int×Int×Unit)_ G=>Q (b.1,b.2.1,()) () G) X
theorem Al4 m l H Q X(h_:Al5 m l H Q X):Wp Y0 OI Mt (m,l,()) H Q X:=wF Tryz.f28 {} h_
def TR(m:Option Nat)(f g:Int)(H:HY)(Q:Bool×Int×Unit->UU)(X:PX):=Wp Y0 VY R3 (m,λ(a:Option Nat×Int×Int×Unit)(H:HY)(Q:Int×Unit->HP)(X:Nat->Lf Y0.D->HP)=>Wp Y0 Pw Ms (a.1,a.2.1,a.2.2.1,()) H (λ(b:Int×Unit)(x:Unit)(G:HY)=>Q (b.1,()) G) X,f,g,1,()) H (λ(b:Bool×Int×Unit)_ G=>(¬b.1=true->Q (decide (b.2.1=0),b.2.1,()) () G)/\(¬¬b.1=true->Q (false,b.2.1,()) () G)) X
theorem Abf m f g H Q X(h_:TR m f g H Q X):Wp Y0 L7 JM (m,f,g,()) H Q X:=wF Tryz.f27 {} h_
def Aiv(m:Option Nat)(l:List Int)(H:HY)(Q:Int×Int×Unit->UU)(X:PX):=Wp Y0 Nt KK (m,0,λ(a:Option Nat×Int×Int×Unit)(H:HY)(Q:Int×Unit->HP)(X:Nat->Lf Y0.D->HP)=>Wp Y0 Pw Ms (a.1,a.2.1,a.2.2.1,()) H (λ(b:Int×Unit)(x:Unit)(G:HY)=>Q (b.1,()) G) X,l,()) H (λ(b:Int×Int×Unit)_ G=>Q (b.1,b.2.1,()) () G) X
theorem Aiu m l H Q X(h_:Aiv m l H Q X):Wp Y0 De CN (m,l,()) H Q X:=wF Tryz.f25 {} h_
end
section
variable {M M':Mn}
theorem MHs.mv(h:MHs M M')(v:MV M):MV M':=by
 refine⟨by rw[h.me];exact v.me,λe he hf ho=>?_⟩;rw[h.me]at he;have k:=v.en e he hf ho;have n:M'.S.n=M.S.n:=by unfold B4.n;rw[h.bs.tb]
 have t:M'.T=M.T:=h.A6;have l:M'.lv=M.lv:=by show Dh _=Dh _;rw[h.lv]
 exact⟨by rw[t];exact k.of,by rw[t];exact k.og,by rw[t];exact k.oh,by rw[t];exact k.or,by rw[t];exact k.den,by rw[n,l,t];exact k.lev⟩
variable {H H':HY} {b:Nat}
theorem MHs.mg(h:MHs M M')(g:MG H b M)(h':JC H' b M')(i':MI M'):MG H' b M':=
 ⟨h',i',h.mv g.v,by rw[h.ws];exact g.e,by rw[show M'.S.n=M.S.n by unfold B4.n;rw[h.bs.tb]];exact g.n8,by rw[h.room];exact g.rm⟩
theorem MG.KR(h:MG H b M)(f:∀c,H c≠none->H' c=H c):MG H' b M:=⟨h.h.KR f,h.i,h.v,h.e,h.n8,h.rm⟩
structure New(M M':Mn)(F:B.Fn):Prop where
 bs:DN M M'
 nx:M'.nx=M.nx+1
 ln:M'.hs.length=M.hs.length+1
 A9:∀g,M'.A9 g=if g=M.nx then some F else M.A9 g
variable {F:B.Fn}
theorem New.n(h:New M M' F):M'.S.n=M.S.n:=by unfold B4.n;rw[h.bs.tb]
structure GD(b:Nat)(M:Mn)(c:Nat):Prop where
 b:c≠b
 mb:c≠M.mb
 sb:c≠M.sb
 bl:c≠M.S.bl
 bp:c≠M.S.bp
 tb:c∉M.S.tb
variable {c:Nat}
theorem JC.notM(h:JC H b M)(hc:H c=none):GD b M c:=by
 have ne:∀{d:Nat}{o:Ob Y0},H d=some o->c≠d:=λhd e=>by rw[e,hd]at hc;cases hc
 refine⟨ne h.ob,ne h.me,ne h.st.st,ne h.st.lv,ne h.st.po,λhm=>?_⟩;obtain⟨v,hv,e⟩:=List.mem_iff_getElem.1 hm;exact ne (h.st.ta v hv) e.symm
theorem GD.same{b c:Nat}{M M':Mn}(h:GD b M c)(e:DN M M'):GD b M' c:=⟨h.b,by rw[e.mb];exact h.mb,by rw[e.sb];exact h.sb,by rw[e.bl];exact h.bl,by rw[e.bp];exact h.bp,by rw[e.tb];exact h.tb⟩
theorem JD.at(f:JD b M H H')(h:GD b M c):H' c=H c:=f c h.b h.mb h.sb h.bl h.bp h.tb
theorem Kd.at(f:Kd b M H H')(hc:H c≠none)(h:GD b M c):H' c=H c:=f c hc h.b h.mb h.sb h.bl h.bp h.tb
theorem JD.same{b:Nat}{M M':Mn}{H H':HY}(f:JD b M' H H')(e:DN M M'):JD b M H H':=λc a1 a2 a3 a4 a5 a6=>f c a1 (by rw[e.mb];exact a2) (by rw[e.sb];exact a3) (by rw[e.bl];exact a4) (by rw[e.bp];exact a5) (by rw[e.tb];exact a6)
theorem JC.other{m:Nat}{x:Y0.O m}{y:Ob Y0}(h:JC H b M)(hc:GD b M c)(_:H c=some (.st m x)):JC (Ac H c y) b M:=by
 refine⟨?_,⟨?_,?_,?_,h.st.nd,λv hv=>?_⟩,?_⟩
 .rw[Af _ _ hc.b.symm];exact h.ob
 .rw[Af _ _ hc.sb.symm];exact h.st.st
 .rw[Af _ _ hc.bl.symm];exact h.st.lv
 .rw[Af _ _ hc.bp.symm];exact h.st.po
 .rw[Af _ _ λe=>hc.tb (by rw[<-e];exact List.getElem_mem hv)];exact h.st.ta v hv
 .rw[Af _ _ hc.mb.symm];exact h.me
def OpE(b:Nat)(M:Mn)(H:HY)(Fs:List B.Fn)(F:B.Fn)(op:FT Y0 [.ptr] [.int .i64]):Prop:=∀M' H' c(X':PX)(Q':Int×Unit->HP),MS H' c b M'->MI M'->MV M'->Kp M M'->Kd b M H H'->(∀M'' H'' l,MS H'' c b M''->MR M' M''->PK M' M'' Fs->JD b M' H' H''->X7 M' M'' l->X' 231 l H'')->(∀e M'' H'',MS H'' c b M''->MR M' M''->PK M' M'' Fs->JD b M' H' H''->M''.ws=M'.ws->B.Ok M''.T e->B.den M''.T e=F->Q' (e,()) H'')->op (some c,()) H' Q' X'
theorem Ya{Fs:List B.Fn}{op:FT Y0 [.ptr] [.int .i64]}{X:PX}{Q:Int×Int×Unit->UU}(hM:MG H b M)(hn:M.nx<576460752303423487)(hl:M.hs.length<=60000)(hF:Fs.length<=1000)(hR:∀F∈Fs,B.RD M.S.n F)(hop:OpE b M H Fs F op)(hq:∀M' H',MG H' b M'->New M M' F->Kd b M H H'->Q (M.nx,0,()) () H'):Wp Y0 L8 JN (some b,op,()) H Q X:=by
 apply Acq;unfold TZ;refine⟨λh=>absurd h (by simp),λ_ c0 hc0=>?_⟩;have n0:=hM.h.notM hc0;have old0:∀d,H d≠none->Ac H c0 (Ob.st Ch (0:Int)) d=H d:=λd hd=>Af _ _ λe=>hd (by rw[e];exact hc0);refine V6 (M:=M) (Fs:=Fs) (J:=λH'=>(∃x:Int,H' c0=some (.st Ch x))/\Kd b M H H') (P:=λM' H'=>∃e:Int,H' c0=some (.st Ch e)/\B.Ok M'.T e/\B.den M'.T e=F) (hM.KR old0) (by omega) hl hF hR (λH1 H2⟨⟨x,hx⟩,fr⟩f=>⟨⟨x,by rw[f.at (by rw[hx];simp) n0];exact hx⟩,fr.trans f .refl⟩) ⟨⟨0,Ai _ _ _⟩,Kd.new hc0⟩ ?_ ?_
 .intro M' H' c X' Q' cx iI iV kp ⟨⟨x,hx⟩,fr⟩ hpan hfin;apply Xt;unfold Qq;have j:∀{H''},JD b M' H' H''->(∃x:Int,H'' c0=some (.st Ch x))/\Kd b M H H'':=λ{H''}f=>⟨⟨x,by rw[(f.same kp.bs).at n0];exact hx⟩,fr.trans (f.same kp.bs).h .refl⟩
  refine hop M' H' c _ _ cx iI iV kp fr (λM'' H'' l c2 st cov f hp=>hpan M'' H'' l c2 st cov (j f) hp) λe M'' H'' c2 st cov f hw ho hd=>?_;obtain⟨⟨x2,hx2⟩,f2⟩:=j f;have n2:=(n0.same kp.bs).same st.bs;refine⟨c0,rfl,x2,hx2,hfin M'' _ ⟨?_,c2.NT.other n2 hx2⟩ st cov ⟨⟨_,Ai _ _ _⟩,λd a0 a1 a2 a3 a4 a5 a6=>?_⟩ hw ⟨e,Ai _ _ _,ho,hd⟩⟩
  .rw[Af _ _ (Bj c2.cx hx2 (by decide))];exact c2.cx
  .rw[Af _ _ (λe=>a0 (by rw[e];exact hc0))];exact f2 d a0 a1 a2 a3 a4 a5 a6
 .intro M' H' g kp hw ⟨_,fr⟩ ⟨e,he,ho,hd⟩;refine⟨λh=>absurd rfl h,λ_=>⟨b,rfl,M'.ob,g.h.ob,rfl,e,he,rfl,?_⟩⟩;refine JL g.h.st g.i.si.sc.po λt ht=>⟨λh=>absurd (ht.2 ho) h,λ_=>⟨e,he,rfl,?_⟩⟩
  refine TT g.h g.i (by rw[kp.nx];omega) ho λM2 H2 h2 i2 ms nx ln A9 f2=>?_;rw[kp.nx];refine hq M2 H2 (ms.mg g h2 i2) ⟨kp.bs.trans ms.bs,nx.trans (by rw[kp.nx]),ln.trans (by rw[kp.hs]),λk=>?_⟩ (fr.trans f2.h kp.bs);rw[A9,kp.nx,kp.A9];show (if k=M.nx then some (B.den M'.T e) else _)=_;rw[hd]
def Aor(b:Nat)(T:B.Fn->B.Fn->B.Fn)(f:FT Y0 [.ptr,.int .i64,.int .i64] [.int .i64]):Prop:=∀M' H' c e1 e2(X':PX)(Q':Int×Unit->HP),MS H' c b M'->SI M'.S->MV M'->B.Ok M'.T e1->B.Ok M'.T e2->(∀M'' H'' l,MS H'' c b M''->MR M' M''->Lr M' M'' (T (B.den M'.T e1) (B.den M'.T e2))->JD b M' H' H''->X7 M' M'' l->X' 231 l H'')->(∀e M'' H'',MS H'' c b M''->MR M' M''->Lr M' M'' (T (B.den M'.T e1) (B.den M'.T e2))->JD b M' H' H''->M''.ws=M'.ws->B.Ok M''.T e->B.den M''.T e=T (B.den M'.T e1) (B.den M'.T e2)->Q' (e,()) H'')->f (some c,e1,e2,()) H' Q' X'
theorem OV{g:Int}{X:PX}{Q:Int×Unit->UU}(hC:MS H c b M)(hI:MI M)(hF:M.A9 g=some F)(h:∀e,B.Ok M.T e->B.den M.T e=F->Q (e,()) () H):Wp Y0 FU EI (some c,g,()) H Q X:=by obtain⟨e,he,hd⟩:=Mn.Fm hF;refine Ae2 hC (λh0=>by rw[h0]at he;cases he) λe' he'=>?_;rw[he]at he';cases he';exact h e (hI.ok g e he).1 hd
theorem Ali{n:Int}{T:B.Fn->B.Fn->B.Fn}(hT:∀F G a b,(F a=F b)->(G a=G b)->T F G a=T F G b){G:B.Fn}(h1:B.RD n F)(h2:B.RD n G):B.RD n (T F G):=λa b hab=>hT F G a b (h1 a b hab) (h2 a b hab)
theorem MG.rd(h:MG H b M){g:Int}(hF:M.A9 g=some F):B.RD M.S.n F:=by obtain⟨e,he,rfl⟩:=Mn.Fm hF;exact h.i.si.BP.rd (h.i.ok g e he).1
end
section
def EM(F G:B.Fn):B.Fn:=λa=>F a&&G a
def Zl(F G:B.Fn):B.Fn:=λa=>F a ||G a
variable {b:Nat}
theorem UT{T:B.Fn->B.Fn->B.Fn}{f:FT Y0 [.ptr,.int .i64,.int .i64] [.int .i64]}(g h:Int->Int)(hg:∀{N:B.Tb}{e:Int},B.Ok N e->B.Ok N (g e)/\B.Ok N (h e))(hT:∀{N:B.Tb}{e1 e2:Int},B.Ok N e1->B.Ok N e2->DT (B.den N e1) (B.den N (g e2)) (B.den N (h e2))=T (B.den N e1) (B.den N e2))(hf:∀c e1 e2 H X(Q:Int×Unit->HP),Wp Y0 CG Cy (c,e1,g e2,h e2,()) H (λb _ H'=>Q (b.1,()) H') X->f (c,e1,e2,()) H Q X):Aor b T f:=by intro M' H' c e1 e2 X' Q' cx hI hV o1 o2 hpan hfin;refine hf (some c) e1 e2 H' X' Q' ?_;have k:=hT o1 o2;exact Ajl cx hI hV o1 (hg o2).1 (hg o2).2 (λM'' H'' l c2 st cov f hp=>hpan M'' H'' l c2 st (by rw[<-k];exact cov) f hp) λe M'' H'' c2 st cov f hw ho hd=>hfin e M'' H'' c2 st (by rw[<-k];exact cov) f hw ho (by rw[hd];exact k)
theorem Ahr:Aor b EM (λa H Q X=>Wp Y0 Pw Ms (a.1,a.2.1,a.2.2.1,()) H (λb _ H'=>Q (b.1,()) H') X):=
 UT (λe=>e) (λ_=>1) (λh=>⟨h,B.ok_one⟩) (λ_ _=>by funext a;rw[B.FM];simp only[DT,EM];cases B.den _ _ a<;>simp) λc e1 e2 H X Q h=>Air _ _ _ _ _ _ h
theorem Au3:Aor b Zl (λa H Q X=>Wp Y0 VW R2 (a.1,a.2.1,a.2.2.1,()) H (λb _ H'=>Q (b.1,()) H') X):=
 UT (λ_=>0) (λe=>e) (λh=>⟨B.U6,h⟩) (λ_ _=>by funext a;rw[B.JA];simp only[DT,Zl];cases B.den _ _ a<;>simp) λc e1 e2 H X Q h=>Al1 _ _ _ _ _ _ h
def VU(T:B.Fn->B.Fn->B.Fn):B.Fn->List B.Fn->List B.Fn
 |_,[]=>[]
 |F,G::l=>T F G::VU T (T F G) l
theorem Yp{T:B.Fn->B.Fn->B.Fn}:∀{l:List B.Fn}{F:B.Fn},(VU T F l).length=l.length
 | [],_=>rfl
 |_::l,_=>by simp [VU,Yp (l:=l)]
theorem Acb{T:B.Fn->B.Fn->B.Fn}:∀{l:List B.Fn}{F:B.Fn}{k:Nat}(h:k<l.length),T ((l.take k).foldl T F) l[k]∈VU T F l
 |G::l,F,0,_=>List.mem_cons_self
 |G::l,F,k+1,h=>List.mem_cons_of_mem _ (by simpa using Acb (l:=l) (F:=T F G) (k:=k) (by simpa using h))
theorem Aca{n:Int}{T:B.Fn->B.Fn->B.Fn}(hT:∀F G a b,(F a=F b)->(G a=G b)->T F G a=T F G b):∀{l:List B.Fn}{F:B.Fn},B.RD n F->(∀G∈l,B.RD n G)->∀K∈VU T F l,B.RD n K
 | [],_,_,_,_,h=>absurd h List.not_mem_nil
 |G::l,F,h1,h2,K,h=>by
  have h3:=Ali hT h1 (h2 G List.mem_cons_self);rcases List.mem_cons.1 h with rfl|h
  .exact h3
  .exact Aca hT h3 (λG' hG=>h2 G' (List.mem_cons_of_mem _ hG)) K h
variable {M:Mn} {l:List Int} {Gs:List B.Fn} {H:HY} {X:PX} {Q:Int×Int×Unit->UU}
theorem TQ{T:B.Fn->B.Fn->B.Fn}{f:FT Y0 [.ptr,.int .i64,.int .i64] [.int .i64]}{e0:Int}{F0:B.Fn}(hM:MG H b M)(hn:M.nx<576460752303423487)(hl:M.hs.length<=60000)(hT:∀F G a b,(F a=F b)->(G a=G b)->T F G a=T F G b)(hf:Aor b T f)(he0:∀N:B.Tb,B.Ok N e0/\B.den N e0=F0)(hlen:l.length<=1000)(hG:l.map M.A9=Gs.map some)(hq:∀M' H',MG H' b M'->New M M' (Gs.foldl T F0)->Kd b M H H'->Q (M.nx,0,()) () H'):Wp Y0 Nt KK (some b,e0,f,l,()) H Q X:=by
 apply Aeh;unfold Vq;have hgl:Gs.length=l.length:=by have:=congrArg List.length hG;simpa using this.symm
 have hgk:∀k(h:k<l.length)(h':k<Gs.length),M.A9 l[k]=some Gs[k]:=λk h h'=>by
  have h1:(l.map M.A9)[k]?=(Gs.map some)[k]?:=by rw[hG]
  rw[List.getElem?_map,List.getElem?_map,List.getElem?_eq_getElem h,List.getElem?_eq_getElem h']at h1;simpa using h1
 have hF0:B.RD M.S.n F0:=by rw[<-(he0 M.T).2];exact hM.i.si.BP.rd (he0 M.T).1
 refine Ya (Fs:=VU T F0 Gs) (F:=Gs.foldl T F0) hM hn hl (by rw[Yp];omega) (Aca hT hF0 λG hG'=>?_) ?_ λM' H' g' nw fr=>hq M' H' g' nw fr
 .obtain⟨k,hk,rfl⟩:=List.mem_iff_getElem.1 hG';exact hM.rd (hgk k (by omega) hk)
 .intro M' H' c X' Q' cx iI iV kp fr hpan hfin;apply Zm;unfold RI;intro _;refine⟨λn z H2=>n=l.length-z.2.1/\z.2.1<=l.length/\∃M2,MS H2 c b M2/\MR M' M2/\PK M' M2 (VU T F0 Gs)/\JD b M' H' H2/\M2.ws=M'.ws/\B.Ok M2.T z.1/\B.den M2.T z.1=(Gs.take z.2.1).foldl T F0,⟨_,rfl,Nat.zero_le _,M',cx,MR.refl iI.si iV,PK.refl,JD.refl,rfl,(he0 _).1,(he0 _).2⟩,?_⟩;rintro n ⟨e,k,_⟩ H2 ⟨hn0,hk0,M2,cx2,st2,cov2,f2,w2,o2,d2⟩;have hnk:n=l.length-k:=hn0;have hk:k<=l.length:=hk0;replace o2:B.Ok M2.T e:=o2;replace d2:B.den M2.T e=(Gs.take k).foldl T F0:=d2;clear hn0 hk0;obtain⟨i2,kp2⟩:=st2.kp iI (by rw[w2];exact Nat.le_refl _);refine⟨λhkl _=>?_,λhkl=>?_⟩
  .have hkl':k<l.length:=hkl;have hkg:k<Gs.length:=by omega
   have hmem:=Acb (T:=T) (F:=F0) hkg;refine⟨hkl',OV cx2 i2 (by rw[kp2.A9,kp.A9];exact hgk k hkl' hkg) λe2 o3 d3=>?_⟩;refine hf M2 H2 c e e2 _ _ cx2 i2.si st2.mv o2 o3 (λM3 H3 l3 cx3 st3 cov3 f3 hp=>?_) λe3 M3 H3 cx3 st3 cov3 f3 w3 o4 d4=>⟨by show k+1<=_;omega,l.length-(k+1),by omega,rfl,by show k+1<=_;omega,M3,cx3,st2.trans st3,cov2.trans (cov3.l (by rw[d2,d3];exact hmem)),f2.trans f3 st2.bs,w3.trans w2,o4,?_⟩
   .exact hpan M3 H3 l3 cx3 (st2.trans st3) (cov2.trans (cov3.l (by rw[d2,d3];exact hmem))) (f2.trans f3 st2.bs) (hp.step w2)
   .show B.den M3.T e3=(Gs.take (k+1)).foldl T F0;rw[d4,d2,d3,List.take_succ_eq_append_getElem hkg,List.foldl_append];rfl
  .have hkl':¬k<l.length:=hkl;have:k=Gs.length:=by omega
   subst this;rw[List.take_length]at d2;exact hfin e M2 H2 cx2 st2 cov2 f2 w2 o2 d2
theorem Vr(hM:MG H b M)(hn:M.nx<576460752303423487)(hl:M.hs.length<=60000)(hlen:l.length<=1000)(hG:l.map M.A9=Gs.map some)(hq:∀M' H',MG H' b M'->New M M' (Gs.foldl EM (λ_=>true))->Kd b M H H'->Q (M.nx,0,()) () H'):Wp Y0 De CN (some b,l,()) H Q X:=by refine Aiu _ _ _ _ _ (TQ (T:=EM) hM hn hl (λF G a b h1 h2=>by simp only[EM,h1,h2]) Ahr (λN=>⟨B.U6,B.JA⟩) hlen hG hq)
theorem Ait(hM:MG H b M)(hn:M.nx<576460752303423487)(hl:M.hs.length<=60000)(hlen:l.length<=1000)(hG:l.map M.A9=Gs.map some)(hq:∀M' H',MG H' b M'->New M M' (Gs.foldl Zl (λ_=>false))->Kd b M H H'->Q (M.nx,0,()) () H'):Wp Y0 OI Mt (some b,l,()) H Q X:=by refine Al4 _ _ _ _ _ (TQ (T:=Zl) hM hn hl (λF G a b h1 h2=>by simp only[Zl,h1,h2]) Au3 (λN=>⟨B.ok_one,B.FM⟩) hlen hG hq)
end
section
variable {b:Nat} {M:Mn} {g:Int} {F:B.Fn} {H:HY} {X:PX}
theorem Aiq{T:B.Fn->B.Fn->B.Fn}{f:FT Y0 [.ptr,.int .i64,.int .i64] [.int .i64]}{k want:Int}{G W:B.Fn}{Q:Bool×Int×Unit->UU}(hM:MG H b M)(hn:M.nx<576460752303423487)(hl:M.hs.length<=60000)(hT:∀F G a b,(F a=F b)->(G a=G b)->T F G a=T F G b)(hf:Aor b T f)(hF:M.A9 g=some F)(hG:M.A9 k=some G)(hw:∀N:B.Tb,B.Ok N want/\B.den N want=W)(hq:∀M' H'(t:Bool),(t=true↔T F G=W)->MG H' b M'->Kp M M'->Kd b M H H'->Q (t,0,()) () H'):Wp Y0 VY R3 (some b,f,g,k,want,()) H Q X:=by
 apply Al3;unfold Abe;intro c0 hc0;have n0:=hM.h.notM hc0;have old0:∀d,H d≠none->Ac H c0 (Ob.st O9 false) d=H d:=λd hd=>Af _ _ λe=>hd (by rw[e];exact hc0);apply Xq;unfold Qn;refine⟨λh=>absurd h (by simp),λ_=>?_⟩;refine V6 (M:=M) (Fs:=[T F G]) (J:=λH'=>(∃x:Bool,H' c0=some (.st O9 x))/\Kd b M H H') (P:=λM' H'=>∃x:Bool,H' c0=some (.st O9 x)/\(x=true↔T F G=W)) (hM.KR old0) (by omega) hl (by simp) (λx hx=>?_) (λH1 H2⟨⟨x,hx⟩,fr⟩f=>⟨⟨x,by rw[f.at (by rw[hx];simp) n0];exact hx⟩,fr.trans f .refl⟩) ⟨⟨false,Ai _ _ _⟩,Kd.new hc0⟩ ?_ ?_
 .rw[List.mem_singleton]at hx;subst hx;exact Ali hT (hM.rd hF) (hM.rd hG)
 .intro M' H' c X' Q' cx iI iV kp ⟨⟨x,hx⟩,fr⟩ hpan hfin;apply Aeg;unfold Vp;have j:∀{H''},JD b M' H' H''->(∃x:Bool,H'' c0=some (.st O9 x))/\Kd b M H H'':=λ{H''}f=>⟨⟨x,by rw[(f.same kp.bs).at n0];exact hx⟩,fr.trans (f.same kp.bs).h .refl⟩
  refine OV cx iI (by rw[kp.A9];exact hF) λe1 o1 d1=>OV cx iI (by rw[kp.A9];exact hG) λe2 o2 d2=>?_;refine hf M' H' c e1 e2 _ _ cx iI.si iV o1 o2 (λM'' H'' l c2 st cov f hp=>hpan M'' H'' l c2 st (cov.l (by rw[d1,d2];simp)) (j f) hp) λe M'' H'' c2 st cov f hw' ho hd=>?_;obtain⟨⟨x2,hx2⟩,f2⟩:=j f;have n2:=(n0.same kp.bs).same st.bs;refine⟨c0,rfl,x2,hx2,hfin M'' _ ⟨?_,c2.NT.other n2 hx2⟩ st (cov.l (by rw[d1,d2];simp)) ⟨⟨_,Ai _ _ _⟩,λd a0 a1 a2 a3 a4 a5 a6=>?_⟩ hw' ⟨_,Ai _ _ _,?_⟩⟩
  .rw[Af _ _ (Bj c2.cx hx2 (by decide))];exact c2.cx
  .rw[Af _ _ (λe=>a0 (by rw[e];exact hc0))];exact f2 d a0 a1 a2 a3 a4 a5 a6
  .show decide (e=want)=true↔_;rw[decide_eq_true_eq,st.si.BP.eq_iff B4.JO ho (hw _).1,(hw _).2];show B.den M''.T e=W↔_;rw[hd,d1,d2]
 .intro M' H' g kp _ ⟨_,fr⟩ ⟨x,hx,ht⟩;refine⟨x,hx,λhx'=>⟨rfl,?_⟩,λhx'=>⟨rfl,?_⟩⟩
  .exact hq M' H' (decide ((0:Int)=0)) ⟨λ_=>ht.1 hx',λ_=>by simp⟩ g kp fr
  .exact hq M' H' false ⟨λh=>(by cases h),λh=>absurd (ht.2 h) hx'⟩ g kp fr
theorem Zn{k:Int}{G:B.Fn}{Q:Bool×Int×Unit->UU}(hM:MG H b M)(hn:M.nx<576460752303423487)(hl:M.hs.length<=60000)(hF:M.A9 g=some F)(hG:M.A9 k=some G)(hq:∀M' H'(t:Bool),(t=true↔∃a,F a=true/\G a=true)->MG H' b M'->Kp M M'->Kd b M H H'->Q (t,0,()) () H'):Wp Y0 L7 JM (some b,g,k,()) H Q X:=by
 apply Abf;unfold TR;refine Aiq (T:=EM) (W:=λ_=>false) hM hn hl (λF G a b h1 h2=>by simp only[EM,h1,h2]) Ahr hF hG (λN=>⟨B.ok_one,B.FM⟩) λM' H' t ht g' kp fr=>⟨λhf=>?_,λhf=>?_⟩
 .refine hq M' H' (decide ((0:Int)=0)) ⟨λ_=>?_,λ_=>by simp⟩ g' kp fr;have hne:¬EM F G=λ_=>false:=λh=>hf (ht.2 h);refine Classical.byContradiction λhno=>hne (funext λa=>?_);simp only[EM];cases hFa:F a
  .rfl
  .cases hGa:G a
   .rfl
   .exact absurd ⟨a,hFa,hGa⟩ hno
 .have ht':=ht.1 (Classical.not_not.1 hf);refine hq M' H' false ⟨λh=>(by cases h),λ⟨a,h1,h2⟩=>?_⟩ g' kp fr;have:=congrFun ht' a;simp [EM,h1,h2]at this
theorem Zx{Q:Int×Int×Unit->UU}(hM:MG H b M)(hn:M.nx<576460752303423487)(hF:M.A9 g=some F)(hq:∀M' H',MG H' b M'->New M M' F->Kd b M H H'->Q (M.nx,0,()) () H'):Wp Y0 FR EH (some b,g,()) H Q X:=
 Abw hM.h hM.i (by omega) (λh=>by rw[hF]at h;cases h) λF' M' H' hF' h' i' ms nx ln A9 f=>by rw[hF]at hF';cases hF';exact hq M' H' (ms.mg hM h' i') ⟨ms.bs,nx,ln,A9⟩ f.h
structure A0p(M M':Mn)(g:Int):Prop where
 bs:DN M M'
 nx:M'.nx=M.nx
 ln:M'.hs.length+1=M.hs.length
 A9:∀k,M'.A9 k=if k=g then none else M.A9 k
theorem RY{Q:Int×Unit->UU}(hM:MG H b M)(hn:M.nx<576460752303423487)(hg:1<g)(hF:M.A9 g=some F)(hq:∀M' H'(e:Int),MG H' b M'->A0p M M' g->Kd b M H H'->Q (e,()) () H'):Wp Y0 EK DW (some b,[g],()) H Q X:=by
 obtain⟨e,he,_⟩:=Mn.Fm hF;refine Abv hM.h hM.i (by omega) λM' H' h' i' ms nx hs f=>?_;have hd:(ML [g] M.hs).1=Df M.hs g:=by unfold ML;rw[he];simp only[Option.isSome_some,if_true,hg];rfl
 rw[hd]at hs;refine hq M' H' _ (ms.mg hM h' i') ⟨ms.bs,nx,by rw[hs];exact(Sf (i:=0) he).2,λk=>?_⟩ f.h;show (Ae M'.hs k).map (B.den M'.T)=_;rw[hs,Ij hM.i.nd,show M'.T=M.T from ms.A6];split<;>rfl
end
end Go.Proofs.YtcbkbpjlbmalmaaGreatDoor
