/-
  What it says that a variable is valid; the chapter's example. (Merged by program out of 9 texts.)
-/
import Derived.Test.YtcbkbpjlbmalmaaGreatDoorpao
open Go.IntKind (u64)
namespace Go.Proofs.YtcbkbpjlbmalmaaGreatDoor
open Go Go.X Go.Y
section
def QC(n:Nat):List Int:=(List.range n).map λ(k:Nat)=>(k:Int)
variable {n:Nat}
theorem No{x:Int}:x∈QC n↔0<=x/\x<n:=by unfold QC;rw[List.mem_map];refine⟨λ⟨k,hk,e⟩=>?_,λh=>⟨x.toNat,List.mem_range.2 (by omega),by omega⟩⟩;have:=List.mem_range.1 hk;omega
theorem XP:(QC n).Nodup:=List.Pairwise.map _ (λa b h e=>h (by omega)) (List.nodup_range (n:=n))
theorem Np:(QC n).length=n:=by unfold QC;simp
theorem O4:∀{R l:List Int},R.Nodup->(∀x∈R,x∈l)->R.length=l.length->R.Perm l
 | [],l,_,_,h3=>by have:l=[]:=List.length_eq_zero_iff.1 h3.symm;rw[this]
 |r::R,l,h1,h2,h3=>by
  obtain⟨h4,h5⟩:=List.nodup_cons.1 h1;have hr:=h2 r List.mem_cons_self;have p:=List.perm_cons_erase hr;have hl:=p.length_eq;refine(List.Perm.cons r (O4 h5 (λx hx=>?_) ?_)).trans p.symm
  .exact(List.mem_erase_of_ne λe:x=r=>h4 (by rw[<-e];exact hx)).2 (h2 x (List.mem_cons_of_mem _ hx))
  .simp only[List.length_cons]at h3 hl;omega
structure Y2(l:List Int)(n:Nat):Prop where
 ln:l.length=n
 nd:l.Nodup
 rg:∀x∈l,0<=x/\x<n
variable {H:HY} {X:PX}
theorem Vi{l:List Int}{Q:Bool×Unit->UU}(hn:n<=1000)(h:∀t:Bool,(t=true->Y2 l n)->Q (t,()) () H):Wp Y0 Eo Dn (l,(n:Int),()) H Q X:=by
 apply NL;unfold IY;have no:Q (false,()) () H:=h false λe=>absurd e (by decide);refine λ_=>⟨λ_=>no,λhl=>?_⟩
 have hl:l.length=n:=by have:=Classical.not_not.1 hl;omega
 refine⟨λm z=>m=n-z.1/\z.1<=n/\∀v:Nat,v<z.1->l.count (v:Int)=1,⟨_,rfl,rfl,Nat.zero_le _,λv hv=>absurd hv (Nat.not_lt_zero _)⟩,?_⟩;rintro m ⟨v,_⟩ ⟨hm0,hv0,hc0⟩;have hm:m=n-v:=hm0;have hv:v<=n:=hv0;have hc:∀u:Nat,u<v->l.count (u:Int)=1:=hc0;clear hm0 hv0 hc0;refine⟨λhvn=>?_,λhvn=>?_⟩
 .have hvn:(v:Int)<(n:Int):=hvn;refine⟨λm z=>m=n-z.2.1/\z.2.1<=n/\z.1=(l.take z.2.1).count (v:Int),⟨_,rfl,rfl,Nat.zero_le _,by simp⟩,?_⟩;rintro m2 ⟨k,i,_⟩ ⟨hm20,hi0,hk0⟩;have hm2:m2=n-i:=hm20;have hi:i<=n:=hi0;have hk:k=(l.take i).count (v:Int):=hk0;have hkl:k<=i:=by rw[hk];exact Nat.le_trans (List.count_le_length) (by rw[List.length_take];omega)
  clear hm20 hi0 hk0;refine⟨λhin _=>?_,λhin=>⟨λ_=>no,λhk1=>?_⟩⟩
  .have hin:(i:Int)<(n:Int):=hin;have hil:i<l.length:=by omega
   have tk:l.take (i+1)=l.take i++[l[i]]:=List.take_succ_eq_append_getElem hil;refine⟨hil,λhe=>⟨by show k+1<=_;omega,by show i+1<=_;omega,n-(i+1),by omega,rfl,rfl,by show i+1<=_;omega,?_⟩,λhe=>⟨by show i+1<=_;omega,n-(i+1),by omega,rfl,rfl,by show i+1<=_;omega,?_⟩⟩
   .have he:l[i]=(v:Int):=he;show k+1=(l.take (i+1)).count (v:Int);rw[tk,List.count_append,he,List.count_singleton_self,hk]
   .have he:¬l[i]=(v:Int):=he;show k=(l.take (i+1)).count (v:Int);rw[tk,List.count_append,List.count_eq_zero.2 (λhm=>he (List.mem_singleton.1 hm).symm),hk];rfl
  .have hin:¬(i:Int)<(n:Int):=hin;have hk1:k=1:=Classical.not_not.1 hk1;rw[List.take_of_length_le (by omega)]at hk;refine⟨by show v+1<=_;omega,n-(v+1),by omega,rfl,rfl,by show v+1<=_;omega,λu hu=>?_⟩;have hu:u<v+1:=hu;by_cases e:u=v
   .rw[e,<-hk,hk1]
   .exact hc u (by omega)
 .have hvn:¬(v:Int)<(n:Int):=hvn;have:v=n:=by omega
  subst this;refine h true λ_=>?_;have p:(QC v).Perm l:=O4 XP (λx hx=>?_) (by rw[Np,hl])
  .exact⟨hl,(p.nodup_iff).1 XP,λx hx=>No.1 (p.mem_iff.2 hx)⟩
  .have hx:=No.1 hx;have:=hc x.toNat (by omega);rw[show ((x.toNat:Nat):Int)=x by omega]at this;exact List.count_pos_iff.1 (by omega)
def Ahz(n:Int)(l:List Bz):Prop:=∀i(h:i<l.length),1<=l[i].Kind/\l[i].Kind<=3/\1<=l[i].El/\(l[i].Kind=2->0<=l[i].Level/\l[i].Level<=n-2)
theorem PY{n:Int}{l:List Bz}{Q:Int×Unit->UU}(hn:0<=n/\n<=1000)(h:∀e:Int,(e=0->Ahz n l)->Q (e,()) () H):Wp Y0 EB DA (n,0,l,()) H Q X:=by
 apply Oj;unfold JI;have no:∀{e:Int},e≠0->Q (e,()) () H:=λhe=>h _ λe=>absurd e he;refine λ_ _=>⟨AG.2 (by omega),λ_=>no (by decide),λ_=>⟨λm z=>m=l.length-z.1/\z.1<=l.length/\∀i(h:i<l.length),i<z.1->1<=l[i].Kind/\l[i].Kind<=3/\1<=l[i].El/\(l[i].Kind=2->0<=l[i].Level/\l[i].Level<=n-2),⟨_,rfl,rfl,Nat.zero_le _,λi _ hi=>absurd hi (Nat.not_lt_zero _)⟩,?_⟩⟩
 rintro m ⟨k,_⟩ ⟨hm0,hk0,ha0⟩;have hm:m=l.length-k:=hm0;have hk:k<=l.length:=hk0;have ha:∀i(h:i<l.length),i<k->1<=l[i].Kind/\l[i].Kind<=3/\1<=l[i].El/\(l[i].Kind=2->0<=l[i].Level/\l[i].Level<=n-2):=ha0;clear hm0 hk0 ha0;refine λ_=>⟨λhkl _=>?_,λhkl=>?_⟩
 .have hkl:k<l.length:=hkl;have go:1<=l[k].Kind/\l[k].Kind<=3/\1<=l[k].El/\(l[k].Kind=2->0<=l[k].Level/\l[k].Level<=n-2)->k+1<=9223372036854775807/\∃m2,m2<m/\H=H/\m2=l.length-(k+1)/\k+1<=l.length/\∀i(h:i<l.length),i<k+1->1<=l[i].Kind/\l[i].Kind<=3/\1<=l[i].El/\(l[i].Kind=2->0<=l[i].Level/\l[i].Level<=n-2):=λh1=>⟨by omega,l.length-(k+1),by omega,rfl,rfl,by omega,λi hi hik=>by
   by_cases e:i=k
   .subst e;exact h1
   .exact ha i hi (by omega)⟩
  refine⟨hkl,λ_=>no (by decide),λh1 _=>⟨hkl,λ_=>no (by decide),λh2 _=>⟨hkl,λ_=>no (by decide),λh3 _=>⟨hkl,λh4 _=>⟨hkl,λ_=>no (by decide),λh5 _=>⟨hkl,λ_=>⟨AG.2 (by omega),λ_=>no (by decide),λh6=>go ?_⟩⟩⟩,λh4=>go ?_⟩⟩⟩⟩
  .have h1:¬l[k].Kind<1:=h1;have h2:¬3<l[k].Kind:=h2;have h3:¬l[k].El<1:=h3;have h5:¬l[k].Level<0:=h5;have h6:¬n-2<l[k].Level:=h6;exact⟨by omega,by omega,by omega,λ_=>⟨by omega,by omega⟩⟩
  .have h1:¬l[k].Kind<1:=h1;have h2:¬3<l[k].Kind:=h2;have h3:¬l[k].El<1:=h3;exact⟨by omega,by omega,by omega,λe=>absurd e h4⟩
 .have hkl:¬k<l.length:=hkl;exact h 0 λ_ i hi=>ha i hi (by omega)
theorem Abt{b:Nat}{M:Mn}{l:List Bz}{Q:Int×Unit->UU}(hM:JC H b M)(hI:MI M)(hl:l.length<=6)(hw:M.ws.length<=100)(he:Ahz M.S.n l)(h:∀M':Mn,M'={M with ws:=M.ws++l,ca:=M'.ca}->Q (0,()) () (Ac H b (.st CV M'.ob))):Wp Y0 Me Jw (some b,l,()) H Q X:=by
 apply Xp;unfold Qm;have hn:=@B4.JO M.S;have h64:=hI.si.BP.od.n64;refine⟨λh=>absurd h (by simp),λ_ _=>⟨b,rfl,M.ob,hM.ob,λ_ _=>⟨AG.2 (by show _<=256-(M.ws.length:Int)/\256-(M.ws.length:Int)<=_;omega),λhlt=>?_,λ_ _=>⟨rfl,λm z H'=>H'=H/\m=l.length-z.1/\z.1<=l.length,⟨_,rfl,rfl,Nat.zero_le _⟩,?_⟩⟩⟩⟩
 .have hlt:256-(M.ws.length:Int)<(l.length:Int):=hlt;omega
 rintro m ⟨k,_⟩ H' ⟨rfl,hm0,hk0⟩;have hm:m=l.length-k:=hm0;have hk:k<=l.length:=hk0;clear hm0 hk0;refine⟨λhkl _=>?_,λhkl=>⟨M.ob,hM.ob,λ_=>⟨λh0=>⟨?_,h {M with ws:=M.ws++l,ca:=0} rfl⟩,λh0=>⟨?_,h {M with ws:=M.ws++l,ca:=M.ca} rfl⟩⟩⟩⟩
 .have hkl:k<l.length:=hkl;obtain⟨e1,e2,e3,e4⟩:=he k hkl;have go:k+1<=9223372036854775807/\∃m2,m2<m/\H'=H'/\m2=l.length-(k+1)/\k+1<=l.length:=⟨by omega,l.length-(k+1),by omega,rfl,rfl,by omega⟩
  have vs:∀(_:l[k].Kind=2),Wp Y0 DZ D7 (some b,()) H' (λ(bb:Int×Unit)(_:Unit)(H'':HY)=>Ag .i64 bb.1->Ag .i64 (bb.1-1)/\(bb.1-(1:Int)<=l[k].Level->Q (2,()) () H'')/\(¬bb.1-(1:Int)<=l[k].Level->k+1<=9223372036854775807/\∃m2,m2<m/\H''=H'/\m2=l.length-(k+1)/\k+1<=l.length)) X:=λe=>L5 hM hI λ_=>⟨AG.2 (by show _<=M.S.n-1/\M.S.n-1<=_;omega),λhh=>by have hh:M.S.n-1<=l[k].Level:=hh;have:=(e4 e).2;omega,λ_=>go⟩
  exact⟨hkl,λh=>absurd h (by show ¬l[k].Kind<1;omega),λ_=>⟨λh=>absurd h (by show ¬3<l[k].Kind;omega),λ_=>⟨λh=>absurd h (by show ¬l[k].El<1;omega),λ_=>⟨λe=>⟨λh=>absurd h (by show ¬l[k].Level<0;have:=(e4 e).1;omega),λ_=>⟨vs e,vs e⟩⟩,λ_=>⟨go,go⟩⟩⟩⟩⟩
 all_goals
  show (M.ws.length+l.length)*24<=_
  omega
end
structure ArS(b:Nat)(M0:Mn)(H0:HY)(M:Mn)(H:HY):Prop where
 mn:JC H b M
 mi:MI M
 mv:MV M
 t:∀i,M.T i=none
 kp:Kp M0 M
 ws:M.ws=M0.ws
 fr:Kd b M0 H0 H
theorem ArS.swap{b:Nat}{M0 M:Mn}{H0 H:HY}{level:Int}{X:PX}{Q:Int×Unit->UU}(s:ArS b M0 H0 M H)(hc:∀p∈M0.hs,p.2/2=0)(hn:M0.nx<576460752303423488)(h0:0<=level)(h1:level<M.S.n-1)(h:∀M' H'(x y:Int),ArS b M0 H0 M' H'->M.S.lv.vars[level.toNat]?=some x->M.S.lv.vars[level.toNat+1]?=some y->M'.S.lv.vars=(M.S.lv.vars.set level.toNat y).set (level.toNat+1) x->Q (0,()) () H'):Wp Y0 Hx FO (some b,level,()) H Q X:=by refine Abr s.mn s.mi s.mv.me (by rw[s.kp.nx];exact hn) (λhh=>absurd ⟨h0,h1⟩ hh) (λ_ _⟨i,d,hd⟩=>absurd hd (by rw[s.t i];simp)) λM' H' x y _ _ q3 q4 m1 m2 m3 kp ws fr lv lvv=>?_;refine h M' H' x y ⟨m1,m2,m3,Ai3 m2 lvv λp hp=>hc p (by rw[<-s.kp.hs,<-kp.hs];exact hp),s.kp.trans kp,ws.trans s.ws,s.fr.trans fr s.kp.bs⟩ q3 q4 (by rw[lv];rfl)
theorem MI.perm{M:Mn}(h:MI M):M.S.lv.vars.Perm (QC M.S.n.toNat):=by
 have hl:M.S.lv.vars.length=M.S.n.toNat:=by rw[h.si.vl];unfold B4.n;omega
 have hn:=@B4.JO M.S;refine O4 ?_ (λx hx=>?_) (by rw[Np,hl])
 .refine List.pairwise_iff_getElem.2 λi j hi hj hij e=>?_;have h1:=(h.si.inv i _ (List.getElem?_eq_getElem hi)).2.2;have h2:=(h.si.inv j _ (List.getElem?_eq_getElem hj)).2.2;rw[e]at h1;omega
 .obtain⟨i,hi,rfl⟩:=List.mem_iff_getElem.1 hx;have h1:=h.si.inv i _ (List.getElem?_eq_getElem hi);exact No.2 (by omega)
theorem Ae9{b:Nat}{M0:Mn}{order:List Int}{H0:HY}{X:PX}{Q:Bool×Unit->UU}(s0:ArS b M0 H0 M0 H0)(hc:∀p∈M0.hs,p.2/2=0)(hnx:M0.nx<576460752303423488)(ho:order=[]∨Y2 order M0.S.n.toNat)(h:∀M' H',ArS b M0 H0 M' H'->Q (true,()) () H'):Wp Y0 Fo DE (some b,order,()) H0 Q X:=by
 apply Mm;unfold Ib;have hn0:=@B4.JO M0.S;have h64:=s0.mi.si.BP.od.n64;have hol:order.length<=M0.S.n.toNat:=by
  rcases ho with e|e
  .rw[e];exact Nat.zero_le _
  .rw[e.ln];exact Nat.le_refl _
 refine⟨λm z H=>∃i:Nat,z.1=(i:Int)/\m=order.length-i/\i<=order.length/\∃M,ArS b M0 H0 M H/\∀k,k<i->M.S.lv.vars[k]?=order[k]?,⟨_,0,rfl,rfl,Nat.zero_le _,M0,s0,λk hk=>absurd hk (Nat.not_lt_zero _)⟩,?_⟩;rintro m ⟨xi,_⟩ H ⟨i,hi0,hm,hi,M,s,hpre⟩;have hxi:xi=(i:Int):=hi0;subst hxi;have ti:((i:Int)).toNat=i:=by omega
 refine λ_=>⟨λhil=>?_,λhil=>h M H s⟩
 have hil:(i:Int)<(order.length:Int):=hil;have hio:i<order.length:=by omega
 have ord:Y2 order M0.S.n.toNat:=ho.elim (λe=>by rw[e]at hio;simp at hio) id;have hMn:M.S.n=M0.S.n:=s.kp.n;have hvl:M.S.lv.vars.length=order.length:=by rw[s.mi.perm.length_eq,Np,hMn,ord.ln]
 refine Zw s.mn s.mi ⟨λm2 z H'=>H'=H/\z.1=M.S.lv.vars/\∃a:Nat,z.2.1=(a:Int)/\m2=M.S.lv.vars.length-a/\i<=a/\a<=M.S.lv.vars.length/\∀k(hk:k<M.S.lv.vars.length),i<=k->k<a->M.S.lv.vars[k]≠order[i],⟨_,rfl,rfl,i,rfl,rfl,Nat.le_refl _,by omega,λk _ h1 h2=>by omega⟩,?_⟩;rintro m2 ⟨now,xa,_⟩ H' ⟨hH,hnow,a,ha0,hm2,hia,hal,hno⟩;have hH:H'=H:=hH;have hnow:now=M.S.lv.vars:=hnow;have hxa:xa=(a:Int):=ha0;subst hH hnow hxa;have ta:((a:Int)).toNat=a:=by omega
 have p1:Ag .i64 (i:Int)->(0:Int)<=(i:Int):=λ_=>by omega
 have found:∃p,∃hp:p<M.S.lv.vars.length,M.S.lv.vars[p]=order[i]:=by
  have:order[i]∈M.S.lv.vars:=by refine s.mi.perm.mem_iff.2 (No.2 ?_);rw[hMn];exact ord.rg _ (List.getElem_mem hio)
  obtain⟨p,hp,e⟩:=List.mem_iff_getElem.1 this;exact⟨p,hp,e⟩
 obtain⟨p,hp,hpe⟩:=found;have hip:i<=p:=by refine Classical.byContradiction λhlt=>?_;have h1:=hpre p (by omega);rw[List.getElem?_eq_getElem hp,List.getElem?_eq_getElem (by omega),hpe]at h1;have h1:=Option.some.inj h1;have:=(List.getElem_inj ord.nd).1 h1;omega
 refine λ_=>⟨λhlt _=>?_,λhlt=>?_⟩
 .have hlt:(a:Int)<(M.S.lv.vars.length:Int):=hlt;have hav:a<M.S.lv.vars.length:=by omega
  refine⟨λ_=>by show (0:Int)<=(a:Int);omega,by show ((a:Int)).toNat<M.S.lv.vars.length;omega,by show ((a:Int)).toNat<M.S.lv.vars.length;omega,λ_=>⟨p1,by show ((i:Int)).toNat<order.length;omega,λhne _=>⟨AG.2 (by show _<=(a:Int)+1/\(a:Int)+1<=_;omega),M.S.lv.vars.length-(a+1),by omega,rfl,rfl,a+1,by show (a:Int)+1=((a+1:Nat):Int);omega,rfl,by omega,by omega,λk hk h1 h2=>?_⟩,λheq _ _=>⟨λhl=>absurd hvl hl,λ_ _=>⟨λhe=>?_,λ_=>?_⟩⟩⟩⟩
  .have hne:¬M.S.lv.vars[((a:Int)).toNat]'(by omega)=order[((i:Int)).toNat]'(by omega):=hne;simp only[ta,ti]at hne;by_cases e:k=a
   .subst e;exact hne
   .exact hno k hk h1 (by omega)
  .have he:(a:Int)=(M.S.lv.vars.length:Int):=he;omega
  .have heq:¬¬M.S.lv.vars[((a:Int)).toNat]'(by omega)=order[((i:Int)).toNat]'(by omega):=heq;simp only[ta,ti]at heq;have heq:=Classical.not_not.1 heq;refine⟨λm3 z H=>∃q:Nat,z.1=(q:Int)/\m3=q/\i<=q/\q<order.length/\∃M',ArS b M0 H0 M' H/\M'.S.lv.vars[q]?=order[i]?/\∀k,k<i->M'.S.lv.vars[k]?=order[k]?,⟨_,a,rfl,rfl,hia,by omega,M,s,by rw[List.getElem?_eq_getElem hav,heq,List.getElem?_eq_getElem hio],hpre⟩,?_⟩;rintro m3 ⟨xq,_⟩ H3 ⟨q,hq0,hm3,hiq,hqo,M3,s3,hq1,hpre3⟩;have hxq:xq=(q:Int):=hq0;subst hxq;have hM3n:M3.S.n=M0.S.n:=s3.kp.n;have hvl3:M3.S.lv.vars.length=order.length:=by rw[s3.mi.perm.length_eq,Np,hM3n,ord.ln]
   have oln:=ord.ln;refine⟨λhlt _=>⟨AG.2 (by show _<=(q:Int)-1/\(q:Int)-1<=_;omega),?_⟩,λhlt _=>⟨AG.2 (by show _<=(i:Int)+1/\(i:Int)+1<=_;omega),order.length-(i+1),by omega,i+1,by show (i:Int)+1=((i+1:Nat):Int);omega,rfl,by omega,M3,s3,λk hk=>?_⟩⟩
   .have hlt:(i:Int)<(q:Int):=hlt;have tq:((q:Int)-1).toNat=q-1:=by omega
    refine s3.swap hc hnx (level:=(q:Int)-1) (by omega) (by omega) λM4 H4 x y s4 e1 e2 e3=>⟨λhh=>absurd rfl hh,λ_ _=>⟨AG.2 (by show _<=(q:Int)-1/\(q:Int)-1<=_;omega),q-1,by omega,q-1,by show (q:Int)-1=((q-1:Nat):Int);omega,rfl,by omega,by omega,M4,s4,?_,λk hk=>?_⟩⟩
    .rw[tq]at e2 e3;rw[show q-1+1=q by omega]at e2 e3;rw[e3,List.getElem?_set_ne (by omega),List.getElem?_set_self (by omega),<-e2,hq1]
    .rw[tq]at e3;rw[e3,List.getElem?_set_ne (by omega),List.getElem?_set_ne (by omega)];exact hpre3 k hk
   .have hlt:¬(i:Int)<(q:Int):=hlt;have:q=i:=by omega
    subst this;by_cases e:k=q
    .subst e;exact hq1
    .exact hpre3 k (by omega)
 .have hlt:¬(a:Int)<(M.S.lv.vars.length:Int):=hlt;exact absurd hpe (hno p hp hip (by omega))
section
structure Ajw(v:A7):Prop where
 nm:Aj2 v.Name
 bo:v.Bool=true->v.Lo=0/\v.Hi=0
 nu:v.Bool=false->v.Lo<=v.Hi/\-255<=v.Lo/\v.Hi<=255/\v.Hi-v.Lo<64
structure Qz(l:List A7):Prop where
 ok:∀i(h:i<l.length),Ajw l[i]
 ne:∀k i(hi:i<l.length)(hk:k<i),(l[k]'(by omega)).Name≠l[i].Name
def CL(v:A7):Int:=if v.Bool=true then 2 else if v.Hi<v.Lo then 0 else min (v.Hi-v.Lo) 1073741824+1
theorem Ou(v:A7):0<=CL v/\CL v<=1073741825:=by
 unfold CL;split
 .omega
 .split<;>omega
theorem Akm(x:Int):u64.wrap x=x%18446744073709551616:=by simp [IntKind.wrap,IntKind.bits,IntKind.signed]
variable {v:A7}
theorem XH(h1:Ag .i64 v.Hi)(h2:Ag .i64 v.Lo)(h:¬v.Hi<v.Lo):u64.wrap (u64.wrap v.Hi-u64.wrap v.Lo)=v.Hi-v.Lo:=by have:=AG.1 h1;have:=AG.1 h2;rw[Akm,Akm,Akm];omega
variable {H:HY} {X:PX} {Q:Int×Unit->UU}
theorem UQ(h:Q (CL v,()) () H):Wp Y0 LY Js (v,()) H Q X:=by
 apply WU;unfold PN;unfold CL at h;refine⟨λhb=>by rw[if_pos hb]at h;exact h,λhb=>?_⟩;rw[if_neg hb]at h;refine⟨λhl=>by rw[if_pos hl]at h;exact h,λhl h1 h2 _ _=>?_⟩;rw[if_neg hl]at h;rw[XH h1 h2 hl];refine⟨λhlt _ _=>?_,λhlt=>?_⟩
 .have e:Go.IntKind.wrap .i64 (v.Hi-v.Lo)=v.Hi-v.Lo:=E3 (AG.2 (by omega));rw[e];exact⟨AG.2 (by omega),by rw[show v.Hi-v.Lo+1=min (v.Hi-v.Lo) 1073741824+1 by omega];exact h⟩
 .rw[show (1073741825:Int)=min (v.Hi-v.Lo) 1073741824+1 by omega];exact h
theorem J2(h:Q (CL v,()) () H):Wp Y0 Ct BM (v,()) H Q X:=by
 apply Oh;unfold JG;unfold CL at h;refine⟨λhb=>by rw[if_pos hb]at h;exact h,λhb=>?_⟩;rw[if_neg hb]at h;refine⟨λhl=>by rw[if_pos hl]at h;exact h,λhl h1 h2 _ _=>?_⟩;rw[if_neg hl]at h;rw[XH h1 h2 hl];refine⟨λhlt _=>?_,λhlt _ _=>?_⟩
 .have e:Go.IntKind.wrap .i64 1073741824=1073741824:=E3 (AG.2 (by omega));rw[e];exact⟨AG.2 (by omega),by rw[show (1073741824:Int)+1=min (v.Hi-v.Lo) 1073741824+1 by omega];exact h⟩
 .have e:Go.IntKind.wrap .i64 (v.Hi-v.Lo)=v.Hi-v.Lo:=E3 (AG.2 (by omega));rw[e];exact⟨AG.2 (by omega),by rw[show v.Hi-v.Lo+1=min (v.Hi-v.Lo) 1073741824+1 by omega];exact h⟩
def IsB(n:Int)(k:Nat):Prop:=n<=2^k/\∀j,j<k->(2:Int)^j<n
variable {n:Int}
theorem IsB.XD{k k':Nat}(h:IsB n k)(h':IsB n k'):k=k':=by
 refine Classical.byContradiction λhne=>?_;rcases Nat.lt_or_gt_of_ne hne with hl|hl
 .have:=h'.2 k hl;have:=h.1;omega
 .have:=h.2 k' hl;have:=h'.1;omega
noncomputable def Eu(n:Int):Nat:=Classical.epsilon (IsB n)
theorem SG{k:Nat}(h:IsB n k):Eu n=k:=(Classical.epsilon_spec (p:=IsB n) ⟨k,h⟩).XD h
theorem N6(k:Nat):(2:Int)^k=((2^k:Nat):Int):=by norm_cast
theorem Abj(hn:n<=1073741825)(h:IsB n (Eu n)->Eu n<=31->Q ((Eu n:Int),()) () H):Wp Y0 QW Ni (n,()) H Q X:=by
 apply Aej;unfold Vy;refine⟨λm z=>m=31-z.1/\z.1<=31/\∀j,j<z.1->(2:Int)^j<n,⟨_,rfl,rfl,Nat.zero_le _,λj hj=>absurd hj (Nat.not_lt_zero _)⟩,?_⟩;rintro m ⟨k,_⟩ ⟨hm0,hk0,hj0⟩;have hm:m=31-k:=hm0;have hk:k<=31:=hk0;have hj:∀j,j<k->(2:Int)^j<n:=hj0;clear hm0 hk0 hj0;have hp:2^k<=2^31:=Nat.pow_le_pow_right (by omega) hk;have h31:(2:Nat)^31=2147483648:=by decide
 have ew:Go.IntKind.wrap .i64 (1*2^min ((k:Int)).toNat 64)=(2:Int)^k:=by
  rw[show min ((k:Int)).toNat 64=k by omega,Int.one_mul];have h2k:(0:Int)<=2^k/\(2:Int)^k<=2147483648:=by rw[N6];exact⟨Int.natCast_nonneg _,by show ((2^k:Nat):Int)<=((2147483648:Nat):Int);exact Int.ofNat_le.2 (by omega)⟩
  generalize (2:Int)^k=p at h2k;exact E3 (AG.2 (by omega))
 refine⟨λ_ _=>⟨λe=>absurd e (by decide),by show (0:Int)<=(k:Int);omega,λhle=>?_,λhle=>?_⟩,λhlt=>absurd (show k<63 by omega) hlt⟩
 .have hle:n<=Go.IntKind.wrap .i64 (1*2^min ((k:Int)).toNat 64):=hle;rw[ew]at hle;have hb:IsB n k:=⟨hle,hj⟩
  have e:=SG hb;rw[e]at h;exact h hb hk
 .have hle:¬n<=Go.IntKind.wrap .i64 (1*2^min ((k:Int)).toNat 64):=hle;rw[ew]at hle;have hk31:k≠31:=λe=>by subst e;rw[N6,h31]at hle;omega
  refine⟨by show k+1<=_;omega,31-(k+1),by omega,rfl,rfl,by show k+1<=31;omega,λj hjk=>?_⟩;have hjk:j<k+1:=hjk;by_cases e:j=k
  .rw[e];omega
  .exact hj j (by omega)
theorem PZ(h0:0<=n)(hn:n<=1073741825)(h:IsB n (Eu n)->Eu n<=40->Q ((Eu n:Int),()) () H):Wp Y0 EC DB (n,()) H Q X:=by
 apply Ol;unfold JJ;refine⟨λm z=>m=z.1.toNat/\0<=z.1/\z.1*2^z.2.1<n+2^z.2.1/\n<=z.1*2^z.2.1/\z.2.1<=31/\(z.1<=1∨z.2.1<=30)/\∀j,j<z.2.1->(2:Int)^j<n,⟨_,rfl,rfl,h0,by show n*1<n+1;omega,by show n<=n*1;omega,Nat.zero_le _,.inr (Nat.zero_le _),λj hj=>absurd hj (Nat.not_lt_zero _)⟩,?_⟩;rintro m ⟨x,k,_⟩ ⟨hm0,hx0,hu0,hl0,hk0,hk10,hj0⟩;have hm:m=x.toNat:=hm0;have hx:0<=x:=hx0;have hu:x*2^k<n+2^k:=hu0;have hl:n<=x*2^k:=hl0;have hk:k<=31:=hk0;have hk1:x<=1∨k<=30:=hk10;have hj:∀j,j<k->(2:Int)^j<n:=hj0;clear hm0 hx0 hu0 hl0 hk0 hk10 hj0;have hpos:(0:Int)<2^k:=by rw[N6];have:0<2^k:=Nat.pow_pos (by omega);omega
 have ep:(2:Int)^(k+1)=2*2^k:=by rw[Int.pow_succ];omega
 have hxn:x<=n+1:=by
  refine Classical.byContradiction λhn'=>?_;have h1:(x-1)*1<=(x-1)*2^k:=Int.mul_le_mul_of_nonneg_left (by omega) (by omega);have e1:(x-1)*2^k=x*2^k-2^k:=by rw[Int.sub_mul,Int.one_mul]
  omega
 refine⟨λh1 _=>?_,λh1=>?_⟩
 .have h1:1<x:=h1;have ed:x.tdiv 2=x/2:=Int.tdiv_eq_ediv_of_nonneg hx;have em:x.tmod 2=x%2:=Int.tmod_eq_emod_of_nonneg hx;refine⟨by decide,AG.2 (by show _<=x.tdiv 2/\x.tdiv 2<=_;rw[ed];omega),λ_=>⟨by decide,AG.2 (by show _<=x.tmod 2/\x.tmod 2<=_;rw[em];omega),λ_ _=>⟨AG.2 (by show _<=x.tdiv 2+x.tmod 2/\x.tdiv 2+x.tmod 2<=_;rw[ed,em];omega),by show k+1<=_;omega,(x.tdiv 2+x.tmod 2).toNat,?_,rfl,rfl,?_,?_,?_,?_,?_,λj hjk=>?_⟩⟩⟩
  .rw[ed,em];omega
  .show 0<=x.tdiv 2+x.tmod 2;rw[ed,em];omega
  .show (x.tdiv 2+x.tmod 2)*2^(k+1)<n+2^(k+1);rw[ed,em,ep];have e2:2*(x/2+x%2)<=x+1:=by omega
   have h3:(2*(x/2+x%2))*2^k<=(x+1)*2^k:=Int.mul_le_mul_of_nonneg_right e2 (by omega);rw[Int.add_mul,Int.one_mul]at h3;have h4:(x/2+x%2)*(2*2^k)=(2*(x/2+x%2))*2^k:=by rw[<-Int.mul_assoc,Int.mul_comm (x/2+x%2) 2]
   rw[h4];omega
  .show n<=(x.tdiv 2+x.tmod 2)*2^(k+1);rw[ed,em,ep];have e2:x<=2*(x/2+x%2):=by omega
   have h3:x*2^k<=(2*(x/2+x%2))*2^k:=Int.mul_le_mul_of_nonneg_right e2 (by omega);have h4:(x/2+x%2)*(2*2^k)=(2*(x/2+x%2))*2^k:=by rw[<-Int.mul_assoc,Int.mul_comm (x/2+x%2) 2]
   rw[h4];omega
  .show k+1<=31;omega
  .show x.tdiv 2+x.tmod 2<=1∨k+1<=30;rw[ed,em];by_cases e:k=30
   .refine .inl ?_;subst e;have h30:(2:Int)^30=1073741824:=by decide
    rw[h30]at hu;omega
   .exact .inr (by omega)
  .have hjk:j<k+1:=hjk;by_cases e:j=k
   .rw[e];have h5:2*2^k<=x*2^k:=Int.mul_le_mul_of_nonneg_right (by omega) (by omega);omega
   .exact hj j (by omega)
 .have h1:¬1<x:=h1;have hb:IsB n k:=by refine⟨?_,hj⟩;have h5:x*2^k<=1*2^k:=Int.mul_le_mul_of_nonneg_right (by omega) (by omega);omega
  have e:=SG hb;rw[e]at h;exact h hb (by omega)
end
section
noncomputable def BK(l:List A7):List Int:=l.map λv=>(Eu (CL v):Int)
variable {l:List A7}
theorem C3:(BK l).length=l.length:=by unfold BK;rw[List.length_map]
theorem GW{i:Nat}(h:i<l.length):(BK l)[i]'(by rw[C3];exact h)=(Eu (CL l[i]):Int):=by unfold BK;rw[List.getElem_map]
noncomputable def Ev(l:List A7):Int:=D5 (BK l) l.length
variable {H:HY} {X:PX}
theorem LV{Q:Int×Unit->UU}(hl:l.length<=1000000000000000)(h:0<=Ev l->Ev l<=40*(l.length:Int)->Q (Ev l,()) () H):Wp Y0 Ds C8 (l,()) H Q X:=by
 apply NH;unfold IU;apply Oi;unfold JH;refine⟨λm z=>m=l.length-z.2.1/\z.2.1<=l.length/\z.1=D5 (BK l) z.2.1/\0<=z.1/\z.1<=40*(z.2.1:Int),⟨_,rfl,rfl,Nat.zero_le _,rfl,by show (0:Int)<=0;omega,by show (0:Int)<=40*((0:Nat):Int);omega⟩,?_⟩;rintro m ⟨s,k,_⟩ ⟨hm0,hk0,hs0,h10,h20⟩;have hm:m=l.length-k:=hm0;have hk:k<=l.length:=hk0;have hs:s=D5 (BK l) k:=hs0;have h1:0<=s:=h10;have h2:s<=40*(k:Int):=h20;clear hm0 hk0 hs0 h10 h20;refine λ_=>⟨λhkl _=>?_,λhkl=>?_⟩
 .have hkl:k<l.length:=hkl;have hsp:=Ou l[k];refine⟨hkl,J2 (PZ hsp.1 hsp.2 λhb hb40 _ _=>⟨AG.2 ?_,by show k+1<=_;omega,l.length-(k+1),by omega,rfl,rfl,by show k+1<=_;omega,?_,?_,?_⟩)⟩
  .have hb40:Eu (CL l[k])<=40:=hb40;show _<=s+(Eu (CL l[k]):Int)/\s+(Eu (CL l[k]):Int)<=_;omega
  .show s+(Eu (CL l[k]):Int)=D5 (BK l) (k+1);rw[Ez (by rw[C3];exact hkl),GW hkl,hs]
  .show 0<=s+(Eu (CL l[k]):Int);omega
  .have hb40:Eu (CL l[k])<=40:=hb40;show s+(Eu (CL l[k]):Int)<=40*((k+1:Nat):Int);omega
 .have hkl:¬k<l.length:=hkl;have:k=l.length:=by omega
  subst this;show Q (s,()) () H;rw[hs]at h1 h2 ⊢;exact h h1 h2
theorem N5{n:Int}{Q:Bool×Unit->UU}(h:Q (decide (-255<=n/\n<=255),()) () H):Wp Y0 Cz BQ (n,()) H Q X:=by
 apply MY;unfold Ir;refine⟨λh1=>?_,λh1=>?_⟩
 .have e:decide (-255<=n/\n<=255)=decide (n<=255):=decide_eq_decide.2 ⟨λh=>h.2,λh=>⟨h1,h⟩⟩;rw[e]at h;exact h
 .have e:decide (-255<=n/\n<=255)=false:=decide_eq_false λh=>h1 h.1;rw[e]at h;exact h
theorem Xf{Q:Int×Int×Unit->UU}(h:∀i e:Int,(e=0->Qz l)->Q (i,e,()) () H):Wp Y0 G1 E5 (l,()) H Q X:=by
 apply Og;unfold JF;have no:∀{i e:Int},e≠0->Q (i,e,()) () H:=λhe=>h _ _ λe=>absurd e he;refine⟨λm z=>m=l.length-z.1/\z.1<=l.length/\(∀i(h:i<l.length),i<z.1->Ajw l[i])/\∀k i(hi:i<l.length)(hk:k<i),i<z.1->(l[k]'(by omega)).Name≠l[i].Name,⟨_,rfl,rfl,Nat.zero_le _,λi _ hi=>absurd hi (Nat.not_lt_zero _),λk i _ _ hi=>absurd hi (Nat.not_lt_zero _)⟩,?_⟩;rintro m ⟨i,_⟩ ⟨hm0,hi0,ha0,hb0⟩;have hm:m=l.length-i:=hm0;have hi:i<=l.length:=hi0;have ha:∀j(h:j<l.length),j<i->Ajw l[j]:=ha0;have hb:∀k j(hj:j<l.length)(hk:k<j),j<i->(l[k]'(by omega)).Name≠l[j].Name:=hb0;clear hm0 hi0 ha0 hb0;refine λhln=>⟨λhil _=>?_,λhil=>?_⟩
 .have hil:i<l.length:=hil;have i1:i+1<=9223372036854775807:=by omega
  refine⟨hil,Aa5 λt ht=>⟨λ_=>no (by decide),λhtt=>⟨λm z=>m=i-z.1/\z.1<=i/\∀k(hk:k<l.length),k<z.1->l[k].Name≠l[i].Name,⟨_,rfl,rfl,Nat.zero_le _,λk _ hk=>absurd hk (Nat.not_lt_zero _)⟩,?_⟩⟩⟩;have nm:Aj2 l[i].Name:=ht.1 (Classical.not_not.1 htt);rintro m2 ⟨k,_⟩ ⟨hm20,hk0,hn0⟩;have hm2:m2=i-k:=hm20;have hk:k<=i:=hk0;have hn:∀k2(hk:k2<l.length),k2<k->l[k2].Name≠l[i].Name:=hn0;clear hm20 hk0 hn0;refine⟨λhki _=>?_,λhki _=>⟨hil,?_⟩⟩
  .have hki:k<i:=hki;refine⟨by show k<l.length;omega,λ_=>⟨hil,λ_=>no (by decide),λhne=>⟨by show k+1<=_;omega,i-(k+1),by omega,rfl,rfl,by show k+1<=_;omega,λk2 hk2 hlt=>?_⟩⟩⟩;have hlt:k2<k+1:=hlt;by_cases e:k2=k
   .subst e;exact hne
   .exact hn k2 hk2 (by omega)
  .have hki:¬k<i:=hki;have go:Ajw l[i]->i+1<=9223372036854775807/\∃m2,m2<m/\H=H/\m2=l.length-(i+1)/\i+1<=l.length/\(∀j(h:j<l.length),j<i+1->Ajw l[j])/\∀k j(hj:j<l.length)(hk:k<j),j<i+1->(l[k]'(by omega)).Name≠l[j].Name:=λhv=>⟨i1,l.length-(i+1),by omega,rfl,rfl,by omega,λj hj hji=>by
    by_cases e:j=i
    .subst e;exact hv
    .exact ha j hj (by omega),λk2 j hj hkj hji=>by
    by_cases e:j=i
    .subst e;exact hn k2 (by omega) (by omega)
    .exact hb k2 j hj hkj (by omega)⟩
   refine⟨λhbt _=>⟨hil,λ_=>no (by decide),λh1 _=>⟨hil,λ_=>no (by decide),λh2 _=>⟨hil,λhbf=>absurd hbt hbf,λ_=>Wh (go ⟨nm,λ_=>⟨Classical.not_not.1 h1,Classical.not_not.1 h2⟩,λe=>absurd (show l[i].Bool=true from hbt) (by rw[e];simp)⟩)⟩⟩⟩,λhbf _=>⟨hil,λ_ _=>⟨hil,λ_=>⟨hil,λ_=>no (by decide),λh3 _=>⟨hil,N5 ⟨λ_=>no (by decide),λh4 _=>⟨hil,N5 ⟨λ_=>no (by decide),λh5 _=>⟨hil,J2 ⟨λ_=>no (by decide),λh6=>go ?_⟩⟩⟩⟩⟩⟩⟩⟩,λhbt=>absurd hbf hbt⟩⟩;have hbf:¬l[i].Bool=true:=hbf;have h3:¬l[i].Hi<l[i].Lo:=h3;have h4:=of_decide_eq_true (Classical.not_not.1 h4);have h5:=of_decide_eq_true (Classical.not_not.1 h5);have h6:¬(64:Int)<CL l[i]:=h6;unfold CL at h6;rw[if_neg hbf,if_neg h3]at h6;exact⟨nm,λe=>absurd e hbf,λ_=>⟨by omega,h4.1,h5.2,by omega⟩⟩
 .have hil:¬i<l.length:=hil;exact h 0 0 λ_=>⟨λj hj=>ha j hj (by omega),λk j hj hk=>hb k j hj hk (by omega)⟩
theorem UO{Q:Int×Int×Unit->UU}(hv:Qz l)(hl:l.length<=1000)(h:∀H',(∀c,H c≠none->H' c=H c)->Q (0,0,()) () H'):Wp Y0 LX Jr (l,()) H Q X:=by
 apply WR;unfold PM;refine λ_=>⟨λm z H'=>m=l.length-z.1/\z.1<=l.length/\∀c,H c≠none->H' c=H c,⟨_,rfl,Nat.zero_le _,λ_ _=>rfl⟩,?_⟩
 rintro m ⟨i,_⟩ H1 ⟨hm0,hi0,f1⟩;have hm:m=l.length-i:=hm0;have hi:i<=l.length:=hi0;clear hm0 hi0;refine⟨λhil _=>?_,λhil=>h H1 f1⟩;have hil:i<l.length:=hil;refine⟨hil,λb hb=>?_⟩;have ok:=hv.ok i hil;have f2:∀c,H c≠none->Ac H1 b (.st GP l[i]) c=H c:=λc hc=>by have:=f1 c hc;rw[Af _ _ λe=>hc (by rw[<-this,e];exact hb)];exact this
 have mx:Je true l[i].Lo [(.i64,l[i].Hi)]=max l[i].Lo l[i].Hi:=by simp [Je]
 have mn:Je false l[i].Lo [(.i64,l[i].Hi)]=min l[i].Lo l[i].Hi:=by simp [Je]
 have rg:l[i].Lo<=l[i].Hi/\-255<=l[i].Lo/\l[i].Hi<=255/\l[i].Hi-l[i].Lo<64:=by
  cases e:l[i].Bool with
  |true=>have:=ok.bo e;omega
  |false=>exact ok.nu e
 have go:∀(x1:A7),x1=l[i]->(i+1<=9223372036854775807/\∃m2,m2<m/\x1=x1/\m2=l.length-(i+1)/\i+1<=l.length/\∀c,H c≠none->Ac H1 b (.st GP l[i]) c=H c):=λ_ _=>⟨by omega,l.length-(i+1),by omega,rfl,rfl,by omega,f2⟩
 refine⟨λhm=>?_,λhm=>Aen ok.nm ⟨λhn=>absurd rfl hn,λ_=>⟨Nat.zero_le _,by show i<=l.length;omega,?_⟩⟩⟩
 .have hm:255<Je true l[i].Lo [(.i64,l[i].Hi)]:=hm;rw[mx]at hm;omega
 apply DC;unfold BT;apply DQ;unfold Cg;have tl:(List.take (i-0) (List.drop 0 l)).length=i:=by rw[List.drop_zero,List.length_take];omega
 refine λ_=>⟨λm2 z H'=>H'=Ac H1 b (.st GP l[i])/\∃k:Nat,z.1=(k:Int)/\m2=i-k/\k<=i,⟨_,rfl,0,rfl,rfl,Nat.zero_le _⟩,?_⟩
 rintro m2 ⟨xk,_⟩ H2 ⟨hH,k,hk0,hm2,hk⟩;have hH:H2=Ac H1 b (.st GP l[i]):=hH;have hxk:xk=(k:Int):=hk0;subst hH hxk;have tk:((k:Int)).toNat=k:=by omega
 refine⟨λhlt _=>?_,λhlt=>?_⟩
 .have hlt:(k:Int)<((List.take (i-0) (List.drop 0 l)).length:Int):=hlt;rw[tl]at hlt;have hki:k<i:=by omega
  refine⟨λ_=>by show (0:Int)<=(k:Int);omega,by show ((k:Int)).toNat<(List.take (i-0) (List.drop 0 l)).length;rw[tl];omega,?_⟩;apply Uh;unfold N0;refine⟨b,rfl,l[i],Ai _ _ _,rfl,λhe=>?_,λ_ _=>⟨AG.2 (by show _<=(k:Int)+1/\(k:Int)+1<=_;omega),i-(k+1),by omega,rfl,k+1,by show (k:Int)+1=((k+1:Nat):Int);omega,rfl,by omega⟩⟩;have he:=of_decide_eq_true he;have e2:((List.take (i-0) (List.drop 0 l))[((k:Int)).toNat]'(by rw[tl];omega))=l[k]'(by omega):=by simp only[tk,Nat.sub_zero,List.drop_zero,List.getElem_take]
  have he:((List.take (i-0) (List.drop 0 l))[((k:Int)).toNat]'(by rw[tl];omega)).Name=l[i].Name:=he;rw[e2]at he;exact absurd he (hv.ne k i hil hki)
 .refine⟨λhe=>absurd he (by decide),λ_=>⟨l[i],Ai _ _ _,λhbt=>⟨λh1=>absurd (ok.bo hbt).1 h1,λ_=>⟨λh2=>absurd (ok.bo hbt).2 h2,λ_=>⟨λhbf=>absurd hbt hbf,λ_=>go _ rfl⟩⟩⟩,λhbf=>⟨λ_=>⟨λh1=>?_,λ_=>⟨λh2=>?_,λ_ _ _=>⟨AG.2 ?_,λh3=>?_,λ_=>go _ rfl⟩⟩⟩,λhbt=>absurd hbf hbt⟩⟩⟩
  .have h1:l[i].Hi<l[i].Lo:=h1;omega
  .have h2:Je false l[i].Lo [(.i64,l[i].Hi)] < -255:=h2;rw[mn]at h2;omega
  .show _<=l[i].Hi-l[i].Lo/\l[i].Hi-l[i].Lo<=_;omega
  .have h3:64<=l[i].Hi-l[i].Lo:=h3;omega
end
section
theorem Am7{n:Int}:∀{m:Nat},n<=2^m->∃k,k<=m/\IsB n k
 |0,h=>⟨0,Nat.le_refl _,h,λj hj=>absurd hj (Nat.not_lt_zero _)⟩
 |m+1,h=>by
  by_cases h1:n<=2^m
  .obtain⟨k,hk,hb⟩:=Am7 h1;exact⟨k,by omega,hb⟩
  .refine⟨m+1,Nat.le_refl _,h,λj hj=>?_⟩;have:(2:Nat)^j<=2^m:=Nat.pow_le_pow_right (by omega) (by omega);have h2:(2:Int)^j<=2^m:=by rw[N6,N6];exact Int.ofNat_le.2 this
   omega
theorem W2{n:Int}{m:Nat}(h:n<=2^m):Eu n<=m/\IsB n (Eu n):=by obtain⟨k,hk,hb⟩:=Am7 h;rw[SG hb];exact⟨hk,hb⟩
theorem Aoi(v:A7):Eu (CL v)<=31:=by
 have:=Ou v;have h31:(2:Int)^31=2147483648:=by decide
 exact(W2 (by omega)).1
theorem Af0{l:List A7}:∀{k:Nat},k<=l.length->0<=D5 (BK l) k/\D5 (BK l) k<=31*(k:Int)
 |0,_=>by simp [D5]
 |k+1,h=>by have h1:=Af0 (l:=l) (k:=k) (by omega);have h2:=Aoi (l[k]'(by omega));rw[Ez (by rw[C3];omega),GW (by omega)];omega
noncomputable def NX(l:List A7):List Int:=(List.range l.length).map λi=>D5 (BK l) i
variable {l:List A7}
theorem Lp:(NX l).length=l.length:=by unfold NX;simp
theorem Ac0{i:Nat}(h:i<l.length):(NX l)[i]'(by rw[Lp];exact h)=D5 (BK l) i:=by unfold NX;simp
noncomputable def CT(l:List A7):Ad:={Ab:=l,Bits:=BK l,At:=NX l}
theorem Aji{H:HY}{X:PX}{Q:Ad×Int×Unit->UU}(hv:Qz l)(hl:l.length<=1000)(ht:Ev l<=30)(h:∀H',(∀c,H c≠none->H' c=H c)->Q (CT l,0,()) () H'):Wp Y0 Wb R6 (l,()) H Q X:=by
 apply Ant;unfold Ack;refine UO hv hl λH' f=>⟨λhn=>absurd rfl hn,λ_ _ _ _=>⟨by omega,rfl,by omega,Nat.zero_le _,λ_=>⟨λm z H1=>H1=H'/\m=l.length-z.2.2.1/\z.2.2.1<=l.length/\z.1.1=l/\z.1.2.1=(BK l).take z.2.2.1/\z.1.2.2.1=(NX l).take z.2.2.1/\z.2.1=D5 (BK l) z.2.2.1,⟨_,rfl,rfl,Nat.zero_le _,?_,rfl,rfl,rfl⟩,?_⟩⟩⟩
 .have e:((l.length:Int)).toNat=l.length:=by omega
  simp [e]
 rintro m ⟨⟨vs,bs,ats,_⟩,a,i,_⟩ H1 ⟨hH0,hm0,hi0,hvs0,hbs0,hat0,ha0⟩;have hH:H1=H':=hH0;have hm:m=l.length-i:=hm0;have hi:i<=l.length:=hi0;have hvs:vs=l:=hvs0;have hbs:bs=(BK l).take i:=hbs0;have hat:ats=(NX l).take i:=hat0;have ha:a=D5 (BK l) i:=ha0;clear hH0 hm0 hi0 hvs0 hbs0 hat0 ha0;subst hH hvs hbs hat ha;have sb:=Af0 (l:=vs) hi;refine⟨λhil _=>?_,λhil=>?_⟩
 .have hil:i<vs.length:=hil;have hsp:=Ou vs[i];refine⟨hil,UQ (Abj hsp.2 λ_ hb31=>?_)⟩;have hb31:Eu (CL vs[i])<=31:=hb31;have l1:((BK vs).take i).length=i:=by rw[List.length_take,C3];omega
  have l2:((NX vs).take i).length=i:=by rw[List.length_take,Lp];omega
  have pA:(((BK vs).take i).length+1)*8<=140737488355328:=by rw[l1];omega
  have pB:(((NX vs).take i).length+1)*8<=140737488355328:=by rw[l2];omega
  have pC:Ag .i64 (D5 (BK vs) i)->Ag .i64 (Eu (CL vs[i]):Int)->Ag .i64 (D5 (BK vs) i+(Eu (CL vs[i]):Int))/\i+1<=9223372036854775807/\∃m2,m2<m/\H1=H1/\m2=vs.length-(i+1)/\i+1<=vs.length/\vs=vs/\(BK vs).take i++[(Eu (CL vs[i]):Int)]=(BK vs).take (i+1)/\(NX vs).take i++[D5 (BK vs) i]=(NX vs).take (i+1)/\D5 (BK vs) i+(Eu (CL vs[i]):Int)=D5 (BK vs) (i+1):=λ_ _=>by
   refine⟨AG.2 (by omega),by omega,vs.length-(i+1),by omega,rfl,rfl,by omega,rfl,?_,?_,?_⟩
   .rw[List.take_succ_eq_append_getElem (by rw[C3];exact hil),GW hil]
   .rw[List.take_succ_eq_append_getElem (by rw[Lp];exact hil),Ac0 hil]
   .rw[Ez (by rw[C3];exact hil),GW hil]
  repeat' first
   |exact pA
   |exact pB
   |exact pC
   |refine Wh ?_
   |refine⟨?_,?_⟩
 .have hil:¬i<vs.length:=hil;have e:i=vs.length:=by omega
  subst e;have e1:(BK vs).take vs.length=BK vs:=List.take_of_length_le (by rw[C3];exact Nat.le_refl _);have e2:(NX vs).take vs.length=NX vs:=List.take_of_length_le (by rw[Lp];exact Nat.le_refl _);refine⟨λhgt=>?_,λ_=>?_⟩
  .have hgt:30<D5 (BK vs) vs.length:=hgt;unfold Ev at ht;omega
  .show Q ({Ab:=vs,Bits:=(BK vs).take vs.length,At:=(NX vs).take vs.length},0,()) () H1;rw[e1,e2];exact h H1 f
theorem We:DP (CT l)=Ev l:=by show D5 (BK l) (BK l).length=D5 (BK l) l.length;rw[C3]
theorem ZC(hv:Qz l)(hl:l.length<=64):Ml (CT l):=by
 have sp:∀i(h:i<l.length),CL l[i]=MD l[i]-Eg l[i]+1/\Eg l[i]<=MD l[i]/\MD l[i]-Eg l[i]<64/\-255<=Eg l[i]/\MD l[i]<=255:=λi h=>by
  have ok:=hv.ok i h;unfold CL MD Eg;cases e:l[i].Bool with
  |true=>simp
  |false=>
   have:=ok.nu e;have h1:¬l[i].Hi<l[i].Lo:=by omega
   simp only[Bool.false_eq_true,if_false,h1];omega
 have h6:(2:Int)^6=64:=by decide
 refine {lb:=?_,la:=?_,ln:=hl,b0:=λi h=>?_,at_:=λi h=>?_,fit:=λi h h'=>?_}
 .exact C3
 .exact Lp
 .have h:i<(BK l).length:=h;rw[C3]at h;show 0<=(BK l)[i]'(by rw[C3];exact h)/\(BK l)[i]'(by rw[C3];exact h)<=30;rw[GW h];have:=(W2 (n:=CL l[i]) (m:=6) (by have:=sp i h;omega)).1;omega
 .have h:i<(NX l).length:=h;rw[Lp]at h;show (NX l)[i]'(by rw[Lp];exact h)=D5 (BK l) i;exact Ac0 h
 .have h:i<l.length:=h;have s:=sp i h;show Eg l[i]<=MD l[i]/\MD l[i]-Eg l[i]<2^((BK l)[i]'(by rw[C3];exact h)).toNat/\-1152921504606846976<=Eg l[i]/\MD l[i]<=1152921504606846976;rw[GW h];have:=(W2 (n:=CL l[i]) (m:=6) (by omega)).2.1;rw[Int.toNat_natCast];omega
end
section
theorem Avt{n:Int}(h0:0<=n)(h1:n<=64):Je false (Je true n [(.i64,0)]) [(.i64,64)]=n:=by show min (max n 0) 64=n;omega
variable {H:HY} {X:PX}
theorem Qb{n:Int}{Q:List Int×Unit->UU}(h0:0<=n)(h1:n<=64)(h:∀l:List Int,l.length=n.toNat->(∀k(_:k<l.length),l[k]=(k:Int))->Q (l,()) () H):Wp Y0 K6 I4 (n,()) H Q X:=by
 apply Zj;unfold RH;have e:=Avt h0 h1;simp only[e,List.length_replicate];refine λ_ _=>⟨h0,trivial,by omega,λ_=>⟨λm z=>m=n.toNat-z.2.1/\z.2.1<=n.toNat/\z.1.length=n.toNat/\∀k(_:k<z.1.length),k<z.2.1->z.1[k]=(k:Int),⟨_,trivial,rfl,Nat.zero_le _,by simp,λk _ hk=>absurd hk (Nat.not_lt_zero k)⟩,?_⟩⟩
 rintro m ⟨l,k,_⟩ ⟨hm0,hk0,hl0,hv0⟩;have hm:m=n.toNat-k:=hm0;have hk:k<=n.toNat:=hk0;have hl:l.length=n.toNat:=hl0;have hv:∀j(_:j<l.length),j<k->l[j]=(j:Int):=hv0;clear hm0 hk0 hl0 hv0;refine⟨λhkl _=>?_,λhkl=>?_⟩
 .have hkl':k<n.toNat:=hkl;refine⟨by show k<l.length;omega,by show k<l.length;omega,by show k+1<=_;omega,n.toNat-(k+1),by omega,trivial,rfl,by show k+1<=_;omega,by simpa using hl,λj hj hjk=>?_⟩;have hj':j<l.length:=by simpa using hj
  show (l.set k (k:Int))[j]=_;by_cases e:j=k
  .subst e;simp
  .rw[List.getElem_set_ne (Ne.symm e)];have hjk:j<k+1:=hjk;exact hv j hj' (by omega)
 .have hkl':¬k<n.toNat:=hkl;exact h l hl λj hj=>hv j hj (by omega)
variable {room:Int} {Q:Option Nat×Int×Unit->UU}
theorem Aba(h0:1<=room)(h1:room<=1048576)(h:∀b x,H b=none->Fw x->x.room=room->x.at_.length=1->(∀i,Gi x i=none)->Q (some b,0,()) () (Ac H b (.st CR x))):Wp Y0 QV Ng (room,()) H Q X:=by
 apply Ad9;unfold Vm;have fin:∀b,H b=none->Q (some b,0,()) () (Ac H b (.st CR {room:=room,at_:=List.replicate (Int.toNat (1:Int)) {ID:=(0:Int),Var:=(0:Int),Lo:=(0:Int),Hi:=(0:Int),Refs:=(0:Int):Ap},taken:=List.replicate (Int.toNat (1:Int)) false,free:=[],many:=(0:Int):Av})):=λb hb=>by
  have tk:∀i,Nr {room:=room,at_:=List.replicate (Int.toNat (1:Int)) {ID:=(0:Int),Var:=(0:Int),Lo:=(0:Int),Hi:=(0:Int),Refs:=(0:Int):Ap},taken:=List.replicate (Int.toNat (1:Int)) false,free:=[],many:=(0:Int):Av} i=false:=λi=>by
   unfold Nr;show (decide (0<=i)&&(([false]:List Bool)[i.toNat]?).getD false)=false;cases hi:i.toNat with
   |zero|succ j=>simp
  have nd:∀i,Gi {room:=room,at_:=List.replicate (Int.toNat (1:Int)) {ID:=(0:Int),Var:=(0:Int),Lo:=(0:Int),Hi:=(0:Int),Refs:=(0:Int):Ap},taken:=List.replicate (Int.toNat (1:Int)) false,free:=[],many:=(0:Int):Av} i=none:=λi=>by unfold Gi;rw[tk i];rfl
  refine h b _ hb ⟨rfl,by show 0<1;decide,⟨h0,h1⟩,by show ((1:Nat):Int)<=room+1;omega,rfl,λi hi=>absurd hi List.not_mem_nil,List.nodup_nil,rfl,λi hi ht=>?_,λi n hn=>by rw[nd]at hn;cases hn⟩ rfl rfl nd;have ht:([false]:List Bool)[i]?=some false:=ht;rw[List.getElem?_eq_none (by simp;omega)]at ht;cases ht
 refine⟨λhl=>by omega,λ_=>⟨λhl=>by omega,λ_=>⟨⟨by decide,rfl,by decide,by decide,rfl,by decide,fin⟩,by decide,rfl,by decide,by decide,rfl,by decide,fin⟩⟩⟩
theorem Zq{vars:Int}(hv:0<=vars/\vars<=64)(h0:1<=room)(h1:room<=1048576)(h:∀b S H',BX H' b S->SI S->S.n=vars->S.po.room=room->(∀i,A6 S.po i=none)->(∀v,0<=v->v<vars->S.lv.vars[v.toNat]?=some v)->(∀i,Fl S.po i=0)->(∀c,H c≠none->H' c=H c)->Q (some b,0,()) () H'):Wp Y0 OJ L2 (vars,room,()) H Q X:=by
 apply Abl;unfold TS;refine⟨λhl=>by omega,λ_=>⟨λhl=>by omega,λ_=>Aba h0 h1 λbp x hbp hP hroom hlen hnd=>⟨λh=>absurd rfl h,λ_=>Qb hv.1 hv.2 λlv hlv hlvk=>Qb hv.1 hv.2 λll hll hllk=>?_⟩⟩⟩;intro b3 hb3 b4 hb4;have n3:b3≠bp:=λe=>by rw[e,Ai]at hb3;cases hb3
 have n4:b4≠b3:=λe=>by rw[e,Ai]at hb4;cases hb4
 have n5:b4≠bp:=λe=>by rw[e,Af _ _ (Ne.symm n3),Ai]at hb4;cases hb4
 have z3:H b3=none:=by rw[Af _ _ n3]at hb3;exact hb3
 have z4:H b4=none:=by rw[Af _ _ n4,Af _ _ n5]at hb4;exact hb4
 let st (tb:List Nat):Aa:={levels:=some b3,Ba:=some bp,tables:=tb.map some,counts:=[],dead:=0}
 refine⟨λn z H'=>n=vars.toNat-z.1/\z.1<=vars.toNat/\∃tb:List Nat,tb.length=z.1/\H' b4=some (.st AA (st tb))/\H' b3=some (.st CF ⟨lv,ll⟩)/\H' bp=some (.st CR x)/\tb.Nodup/\(∀j(h:j<tb.length),H' tb[j]=some (.st BC ⟨[]⟩))/\∀c,H c≠none->H' c=H c,⟨_,rfl,Nat.zero_le _,[],rfl,Ai _ _ _,?_,?_,List.nodup_nil,λj hj=>absurd hj (Nat.not_lt_zero j),λc hc=>?_⟩,?_⟩
 .rw[Af _ _ (Ne.symm n4),Ai]
 .rw[Af _ _ (Ne.symm n5),Af _ _ (Ne.symm n3),Ai]
 .rw[Af _ _ (λe=>hc (by rw[e];exact z4)),Af _ _ (λe=>hc (by rw[e];exact z3)),Af _ _ (λe=>hc (by rw[e];exact hbp))]
 rintro n ⟨k,_⟩ H' ⟨hn0,hk0,tb,t1,t2,t3,t4,t5,t6,t7⟩;have hn:n=vars.toNat-k:=hn0;have hk:k<=vars.toNat:=hk0;have t1:tb.length=k:=t1;clear hn0 hk0;refine⟨λhkl=>?_,λhkl=>?_⟩
 .have hkl':(k:Int)<vars:=hkl;have stp:∀(b:Nat)(H2:HY),H' b=none->H2 b4=some (.st AA (st (tb++[b])))->H2 b=some (.st BC ⟨[]⟩)->(∀c,c≠b->c≠b4->H2 c=H' c)->∃m,m<n/\(m=vars.toNat-(k+1)/\k+1<=vars.toNat/\∃tb:List Nat,tb.length=k+1/\H2 b4=some (.st AA (st tb))/\H2 b3=some (.st CF ⟨lv,ll⟩)/\H2 bp=some (.st CR x)/\tb.Nodup/\(∀j(h:j<tb.length),H2 tb[j]=some (.st BC ⟨[]⟩))/\∀c,H c≠none->H2 c=H c):=λb H2 hb e1 e2 e3=>by
   have ne:∀{c:Nat}{o:Ob Y0},H' c=some o->c≠b:=λhc e=>by rw[e,hb]at hc;cases hc
   refine⟨vars.toNat-(k+1),by omega,rfl,by omega,tb++[b],by simp [t1],e1,by rw[e3 _ (ne t3) (Ne.symm n4)];exact t3,by rw[e3 _ (ne t4) (Ne.symm n5)];exact t4,?_,λj hj=>?_,λc hc=>?_⟩
   .rw[List.nodup_append];refine⟨t5,by simp,λc hc d hd e=>?_⟩;rw[List.mem_singleton]at hd;subst hd;subst e;obtain⟨j,hj,e⟩:=List.mem_iff_getElem.1 hc;exact ne (t6 j hj) e
   .by_cases hjk:j<tb.length
    .rw[List.getElem_append_left hjk,e3 _ (ne (t6 j hjk)) (Bj (t6 j hjk) t2 (by decide))];exact t6 j hjk
    .have:j=tb.length:=by simp at hj;omega
     subst this;simpa using e2
   .have h2:=t7 c hc;rw[e3 c (λe=>hc (by rw[<-h2,e];exact hb)) (λe=>hc (by rw[e];exact z4))];exact h2
  have lenb:(tb.map some).length+1<=64:=by simp;omega
  have s0:∀b,st (tb++[b])={levels:=some b3,Ba:=some bp,tables:=tb.map some++[some b],counts:=[],dead:=0}:=λb=>by show ({levels:=_,Ba:=_,tables:=(tb++[b]).map some,counts:=_,dead:=_}:Aa)=_;rw[List.map_append];rfl
  refine⟨⟨st tb,t2,λb hb hb2=>?_⟩,λb hb=>?_⟩
  .have nb:b≠b4:=λe=>by rw[e,Ai]at hb2;cases hb2
   have hb':H' b=none:=by unfold Cs at hb;rw[if_neg nb]at hb;exact hb
   refine⟨by show ((tb.map some).length+1)*8<=_;omega,by show k+1<=_;omega,?_⟩;refine stp b _ hb' (by rw[s0];exact Ai _ _ _) ?_ λc c1 c2=>?_
   .rw[Af _ _ nb];unfold G0;rw[if_neg nb,Ai]
   .rw[Af _ _ c2];unfold G0;rw[if_neg c2,Af _ _ c1];unfold Cs;rw[if_neg c2]
  .have nb:b≠b4:=λe=>by rw[e,t2]at hb;cases hb
   have key:∃(x_1:Aa),Ac H' b (Ob.st BC {ids:=[]:Az}) b4=some (Ob.st AA x_1)/\(x_1.tables.length+[some b].length)*8<=140737488355328/\k+1<=9223372036854775807/\∃m,m<n/\(m=vars.toNat-(k+1)/\k+1<=vars.toNat/\∃tb:List Nat,tb.length=k+1/\Ac (Ac H' b (Ob.st BC {ids:=[]:Az})) b4 (Ob.st AA {x_1 with tables:=x_1.tables++[some b]}) b4=some (.st AA (st tb))/\Ac (Ac H' b (Ob.st BC {ids:=[]:Az})) b4 (Ob.st AA {x_1 with tables:=x_1.tables++[some b]}) b3=some (.st CF ⟨lv,ll⟩)/\Ac (Ac H' b (Ob.st BC {ids:=[]:Az})) b4 (Ob.st AA {x_1 with tables:=x_1.tables++[some b]}) bp=some (.st CR x)/\tb.Nodup/\(∀j(h:j<tb.length),Ac (Ac H' b (Ob.st BC {ids:=[]:Az})) b4 (Ob.st AA {x_1 with tables:=x_1.tables++[some b]}) tb[j]=some (.st BC ⟨[]⟩))/\∀c,H c≠none->Ac (Ac H' b (Ob.st BC {ids:=[]:Az})) b4 (Ob.st AA {x_1 with tables:=x_1.tables++[some b]}) c=H c):=by
    refine⟨st tb,by rw[Af _ _ (Ne.symm nb)];exact t2,by show ((tb.map some).length+1)*8<=_;omega,by show k+1<=_;omega,?_⟩;refine stp b _ hb (by rw[s0];exact Ai _ _ _) ?_ λc c1 c2=>?_
    .rw[Af _ _ nb,Ai]
    .rw[Af _ _ c2,Af _ _ c1]
   exact⟨key,key⟩
 .have hkl':¬(k:Int)<vars:=hkl;have hke:k=vars.toNat:=by omega
  let S:B4:={bl:=b3,bp:=bp,tb:=tb,lv:=⟨lv,ll⟩,po:=x,ta:=λ_=>⟨[]⟩,cn:=[],dead:=0}
  have hSn:S.n=vars:=by show (tb.length:Int)=vars;omega
  have hno:∀i,A6 x i=none:=λi=>by unfold A6;rw[hnd];rfl
  have hrf:∀i,Fl x i=0:=λi=>Ve (hno i);have hlvA:∀v,0<=v->v<vars->Dh ⟨lv,ll⟩ v=v:=λv h0 h1=>by
   unfold Dh;have hvl:v.toNat<ll.length:=by rw[hll];omega
   rw[if_pos h0];show (ll[v.toNat]?).getD (-1)=v;rw[List.getElem?_eq_getElem hvl,hllk _ hvl];show ((v.toNat:Nat):Int)=v;omega
  have no:∀{i d},A6 S.po i=some d->False:=λ{i d}hd=>by rw[show A6 S.po i=none from hno i]at hd;cases hd
  have hlvS:∀v,0<=v->v<vars->S.lv.vars[v.toNat]?=some v:=λv h0 h1=>by
   have hvl:v.toNat<lv.length:=by rw[hlv];omega
   show lv[v.toNat]?=some v;rw[List.getElem?_eq_getElem hvl,hlvk _ hvl];congr 1;omega
  have hsi:SI S:=by
   refine⟨⟨hP,⟨λhd=>(no hd).elim,λhd=>(no hd).elim,λhd=>(no hd).elim⟩,λi d hd=>(no hd).elim,?_⟩,⟨⟨by rw[hSn];exact hv.2,λv h0 h1=>?_,λv w a1 a2 a3 a4 e=>?_⟩,λhd=>(no hd).elim,λhd=>(no hd).elim,λhd=>(no hd).elim,λhd=>(no hd).elim,λhd=>(no hd).elim,λhd=>(no hd).elim⟩,by show lv.length=tb.length;omega,by show ll.length=tb.length;omega,λl v hl=>?_,λv _=>List.nodup_nil,λv _ lo hi i=>⟨λh=>(by cases h),λh=>(no h).elim⟩,λi=>by rw[show Fl S.po i=0 from hrf i];exact Int.le_refl _⟩
   .show (0:Int)=B.sm x.at_.length (B.zr (A6 x) (FD []));rw[B.Ff (g:=λ_=>0) λk _ _=>by unfold B.zr;rw[hno],B.U4]
   .rw[hSn]at h1;show 0<=Dh ⟨lv,ll⟩ v/\Dh ⟨lv,ll⟩ v<S.n;rw[hlvA v h0 h1,hSn];exact⟨h0,h1⟩
   .rw[hSn]at a2 a4;have e:Dh ⟨lv,ll⟩ v=Dh ⟨lv,ll⟩ w:=e;rw[hlvA v a1 a2,hlvA w a3 a4]at e;exact e
   .have hl:lv[l]?=some v:=hl;obtain⟨hll',e⟩:=List.getElem?_eq_some_iff.1 hl;rw[hlvk l hll']at e;have hb:(l:Int)<vars:=by rw[hlv]at hll';omega
    refine⟨by omega,by rw[hSn];omega,?_⟩;show Dh ⟨lv,ll⟩ v=l;rw[<-e];exact hlvA _ (by omega) hb
  exact h b4 S H' ⟨t2,t3,t4,t5,t6⟩ hsi hSn hroom hno hlvS hrf t7
theorem Ajj{vars:Int}(hv:0<=vars/\vars<=64)(h0:1<=room)(h1:room<=1048576)(h:∀b M H',JC H' b M->MI M->MV M->M.ws=[]->M.S.n=vars->M.S.po.room=room->(∀i,M.T i=none)->(∀v,0<=v->v<vars->M.S.lv.vars[v.toNat]?=some v)->M.nx=2->M.hs.length=2->(∀g,M.A9 g=if g=0 then some (λ_=>false) else if g=1 then some (λ_=>true) else none)->(∀c,H c≠none->H' c=H c)->H b=none->Q (some b,0,()) () H'):Wp Y0 Sq Ov (vars,room,()) H Q X:=by
 apply An2;unfold Acp;refine Zq hv h0 h1 λbs S H1 s1 i1 hn hr hno hvs hrf KR=>⟨λh=>absurd rfl h,λ_=>Aek _ _ _ _ ?_⟩
 unfold V5;intro bm hbm b hb;have nbm:b≠bm:=λe=>by rw[e,Ai]at hb;cases hb
 have hb1:H1 b=none:=by rw[Af _ _ nbm]at hb;exact hb
 let me:By:={size:=Je false (Je true 4096 [(.i64,1)]) [(.i64,65536)],entries:=none,asked:=0,found:=0}
 let M:Mn:={sb:=bs,S:=S,mb:=bm,me:=me,hs:=[(0,1),(1,0)],nx:=2,ws:=[],ca:=0}
 have new:∀c,H1 c≠none->Ac (Ac H1 bm (.st BU me)) b (.st CV M.ob) c=H1 c:=λc hc=>by rw[Af _ _ (λe=>hc (by rw[e];exact hb1)),Af _ _ (λe=>hc (by rw[e];exact hbm))]
 have hme:MeI me:=⟨by show (1:Int)<=min (max 4096 1) 65536;decide,by show min (max (4096:Int) 1) 65536<=65536;decide,λxs hx=>by cases hx⟩
 have hg:∀g,Ae M.hs g=if g=0 then some 1 else if g=1 then some 0 else none:=λg=>by
  show (if (0:Int)=g then some (1:Int) else if (1:Int)=g then some 0 else none)=_;by_cases e0:g=0
  .subst e0;rfl
  .rw[if_neg (Ne.symm e0),if_neg e0];by_cases e1:g=1
   .subst e1;rfl
   .rw[if_neg (Ne.symm e1),if_neg e1]
 refine h b M _ ⟨Ai _ _ _,s1.KR new,by rw[Af _ _ (Ne.symm nbm),Ai]⟩ ⟨i1,?_,λg e he=>?_,rfl,rfl,(by show (2:Int)<=2;decide),λi hi=>?_,(by show ((2:Nat):Int)<=2;decide)⟩ (MV.empty hme λe⟨xs,hx,_⟩=>by cases hx) rfl hn hr hno hvs rfl rfl (λg=>?_) (λc hc=>?_) ?_
 .show ([0,1]:List Int).Nodup;decide
 .rw[hg]at he;split at he
  .rename_i e0;cases he;exact⟨B.ok_one,by omega,by show g<2;omega⟩
  .split at he
   .cases he;exact⟨B.U6,by omega,by show g<2;omega⟩
   .cases he
 .rw[show Fl M.S.po i=0 from hrf i];show 0=B.dl 1 i+(B.dl 0 i+0);rw[B.Ku (by omega),B.Ku (by omega)];rfl
 .show (Ae M.hs g).map _=_;rw[hg];split
  .show some (B.den M.T 1)=_;rw[B.FM]
  .split
   .show some (B.den M.T 0)=_;rw[B.JA]
   .rfl
 .have:=KR c hc;exact(new c (by rw[this];exact hc)).trans this
 .cases e:H b with
  |none=>rfl
  |some o=>
   have:=KR b (by rw[e];simp);rw[hb1,e]at this;cases this
end
section
structure Aov(a:AS):Prop where
 v:Qz a.Ab
 n:a.Ab.length<=8
 t:0<=Ev a.Ab/\Ev a.Ab<=4
 p:a.EN.length<=6
 e:Ahz (2*Ev a.Ab) a.EN
 o:a.Order=[]∨Y2 a.Order (2*Ev a.Ab).toNat
variable {H:HY} {X:PX} {Q:Bool×Unit->UU}
theorem Um{l:List Int}{n:Int}(h0:0<=n)(hn:n<=1000)(h:∀t:Bool,(t=true->Y2 l n.toNat)->Q (t,()) () H):Wp Y0 Eo Dn (l,n,()) H Q X:=by obtain⟨m,rfl⟩:=Int.eq_ofNat_of_zero_le h0;exact Vi (by omega) h
theorem Aou{a:AS}(hl:a.Ab.length<=1000000000000000)(h:∀t:Bool,(t=true->Aov a)->Q (t,()) () H):Wp Y0 FZ En (a,()) H Q X:=by
 apply NO;unfold Jb;have no:Q (false,()) () H:=h false λe=>absurd e (by decide);refine Xf λi e hv=>LV hl λh0 h1=>⟨λ_=>no,λhe _=>⟨λ_=>no,λh8=>⟨λ_=>no,λh4 _=>⟨λ_=>no,λh6 _=>?_⟩⟩⟩⟩
 have hv:=hv (Classical.not_not.1 he);have h8:¬8<a.Ab.length:=h8;have h4:¬4<Ev a.Ab:=h4;have h6:¬6<a.EN.length:=h6;have ik:Ag .i64 (2*Ev a.Ab):=AG.2 (by omega);have fin:(a.Order=[]∨Y2 a.Order (2*Ev a.Ab).toNat)->Ahz (2*Ev a.Ab) a.EN->Q (true,()) () H:=λho hp=>h true λ_=>⟨hv,by omega,⟨h0,by omega⟩,by omega,hp,ho⟩
 refine⟨λ_ _=>⟨ik,?_⟩,λhz _=>⟨ik,PY (by omega) λe hp=>⟨λ_=>no,λhe=>⟨λm z=>m=a.EN.length-z.1/\z.1<=a.EN.length,⟨_,rfl,rfl,Nat.zero_le _⟩,?_⟩⟩⟩⟩
 .refine Um (by omega) (by omega) λt ht=>⟨λ_=>no,λhtt _=>⟨ik,PY (by omega) λe hp=>⟨λ_=>no,λhe=>⟨λm z=>m=a.EN.length-z.1/\z.1<=a.EN.length,⟨_,rfl,rfl,Nat.zero_le _⟩,?_⟩⟩⟩⟩
  have hp:=hp (Classical.not_not.1 he);rintro m ⟨k,_⟩ ⟨hm0,hk0⟩;have hm:m=a.EN.length-k:=hm0;have hk:k<=a.EN.length:=hk0;refine λ_=>⟨λhkl _=>⟨hkl,λ_=>no,λ_=>⟨by show k+1<=_;omega,a.EN.length-(k+1),by have:k<a.EN.length:=hkl;omega,rfl,rfl,hkl⟩⟩,λ_=>fin (.inr (ht (Classical.not_not.1 htt))) hp⟩
 .have hp:=hp (Classical.not_not.1 he);rintro m ⟨k,_⟩ ⟨hm0,hk0⟩;have hm:m=a.EN.length-k:=hm0;have hk:k<=a.EN.length:=hk0;have hz:¬0<a.Order.length:=hz;refine λ_=>⟨λhkl _=>⟨hkl,λ_=>no,λ_=>⟨by show k+1<=_;omega,a.EN.length-(k+1),by have:k<a.EN.length:=hkl;omega,rfl,rfl,hkl⟩⟩,λ_=>fin (.inl (List.length_eq_zero_iff.1 (by omega))) hp⟩
structure A0n(M:Mn)(n:Int):Prop where
 n:M.S.n=n
 nx:M.nx=2
 ln:M.hs.length=2
theorem Asl{vars room:Int}{Q:Option Nat×Int×Unit->UU}(hv:0<=vars/\vars<=64)(h0:1<=room)(h1:room<=1048576)(h:∀b M H',ArS b M H' M H'->M.ws=[]->M.S.po.room=room->A0n M vars->(∀p∈M.hs,p.2/2=0)->(∀c,H c≠none->H' c=H c)->H b=none->Q (some b,0,()) () H'):Wp Y0 Sq Ov (vars,room,()) H Q X:=by
 refine Ajj hv h0 h1 λb M H' mn mi mv ws n rm t _ nx ln _ f hb=>h b M H' ⟨mn,mi,mv,t,.refl,rfl,.refl⟩ ws rm ⟨n,nx,ln⟩ (λp hp=>?_) f hb;have ok:=(mi.ok p.1 p.2 (Hr mi.nd hp)).1;rcases ok.2 with e|⟨d,e⟩
 .exact e
 .rw[show A6 M.S.po (p.2/2)=none from t _]at e;cases e
theorem Ac8{a:AS}{Q:Option Nat×Ad×Bool×Unit->UU}(s:Aov a)(h:∀b M H',JC H' b M->MI M->MV M->M.ws=a.EN->M.S.po.room=1048576->A0n M (2*Ev a.Ab)->Q (some b,CT a.Ab,true,()) () H'):Wp Y0 Er Dq (a,()) H Q X:=by
 apply NP;unfold Jc;have st:=s.t;have sn:=s.n;refine Aji s.v (by omega) (by omega) λH1 f1=>LV (by omega) λ_ _ _=>⟨AG.2 (by show _<=2*Ev a.Ab/\2*Ev a.Ab<=_;omega),Asl (by omega) (by decide) (by decide) λb M H2 ar ws rm nm hc f2 hb=>⟨λhn=>absurd hn (by simp),λ_=>⟨λhn=>absurd rfl hn,λ_=>⟨λhn=>absurd rfl hn,λ_=>?_⟩⟩⟩⟩
 have nmn:M.S.n=2*Ev a.Ab:=nm.n;refine Ae9 ar hc (by rw[nm.nx];decide) (by rw[nmn];exact s.o) λM3 H3 s3=>⟨λhn=>absurd rfl hn,λ_=>Wh ?_⟩
 have n3:M3.S.n=2*Ev a.Ab:=s3.kp.n.trans nmn;refine Abt s3.mn s3.mi s.p (by rw[s3.ws,ws];decide) (by rw[n3];exact s.e) λM4 e4=>?_;have mi4:MI M4:=by rw[e4];exact⟨s3.mi.si,s3.mi.nd,s3.mi.ok,s3.mi.k0,s3.mi.k1,s3.mi.nx,s3.mi.rf,s3.mi.ln⟩
 have mv4:MV M4:=by rw[e4];exact⟨s3.mv.me,λe he hf hk=>let q:=s3.mv.en e he hf hk;⟨q.of,q.og,q.oh,q.or,q.den,q.lev⟩⟩
 have hsb:H3 b=some (.st CV M3.ob):=s3.mn.ob;have nst:∀{c m:Nat}{x:Y0.O m},H3 c=some (.st m x)->m≠CV->c≠b:=λhc hm=>Bj hc hsb hm;have mn4:JC (Ac H3 b (.st CV M4.ob)) b M4:=by
  have h4:JC (Ac H3 b (.st CV M4.ob)) b {M3 with ws:=M3.ws++a.EN,ca:=M4.ca}:=by
   refine⟨?_,s3.mn.st.other hsb (by decide) (by decide) (by decide) (by decide),?_⟩
   .rw[Ai];congr 2;rw[e4]
   .rw[Af _ _ (nst s3.mn.me (by decide))];exact s3.mn.me
  rw[<-e4]at h4;exact h4
 refine h b M4 _ mn4 mi4 mv4 ?_ ?_ ⟨?_,?_,?_⟩
 .rw[e4];show M3.ws++a.EN=a.EN;rw[s3.ws,ws];rfl
 .rw[e4];exact s3.kp.room.trans rm
 .rw[e4];exact n3
 .rw[e4];exact s3.kp.nx.trans nm.nx
 .rw[e4];show M3.hs.length=2;rw[s3.kp.hs];exact nm.ln
theorem YV{v:Nat}{Q:Int×Unit->UU}(hv:v<=30)(h:Q (2^v,()) () H):Wp Y0 He ES ((v:Int),()) H Q X:=by
 apply P5;unfold Kh;refine⟨λm z=>m=v-z.2.1/\z.2.1<=v/\z.1=2^z.2.1,⟨_,rfl,rfl,Nat.zero_le _,rfl⟩,?_⟩;rintro m ⟨x,k,_⟩ ⟨hm0,hk0,hx0⟩;have hm:m=v-k:=hm0;have hk:k<=v:=hk0;have hx:x=2^k:=hx0;have hb:(2:Int)^k<=1073741824/\0<=(2:Int)^k:=by have:(2:Nat)^k<=2^30:=Nat.pow_le_pow_right (by omega) (by omega);rw[N6];exact⟨by show ((2^k:Nat):Int)<=((1073741824:Nat):Int);exact Int.ofNat_le.2 this,Int.natCast_nonneg _⟩
 refine⟨λhlt _=>?_,λhlt=>?_⟩
 .have hlt:(k:Int)<(v:Int):=hlt;refine⟨AG.2 (by show _<=2*x/\2*x<=_;rw[hx];omega),by show k+1<=_;omega,v-(k+1),by omega,rfl,rfl,by show k+1<=v;omega,?_⟩;show 2*x=2^(k+1);rw[hx,Int.pow_succ,Int.mul_comm]
 .have hlt:¬(k:Int)<(v:Int):=hlt;have:k=v:=by omega
  subst this;show Q (x,()) () H;rw[hx];exact h
theorem KO{i v:Nat}(hi:i<=1000000)(hv:v<=30)(h:Q (decide (i/2^v%2=1),()) () H):Wp Y0 Cd BE ((i:Int),(v:Int),()) H Q X:=by
 apply NK;unfold IX;have hpos:0<2^v:=Nat.pow_pos (by omega);have e1:((i:Int)).tdiv (2^v)=((i/2^v:Nat):Int):=by rw[N6];exact(Int.ofNat_tdiv i (2^v)).symm
 have hq:i/2^v<=i:=Nat.div_le_self _ _;have e2:(((i/2^v:Nat):Int)).tmod 2=((i/2^v%2:Nat):Int):=(Int.ofNat_tmod (i/2^v) 2).symm;refine YV hv λ_ _=>⟨?_,?_,λ_=>⟨by decide,?_,?_⟩⟩
 .show ¬(2:Int)^v=0;rw[N6];omega
 .show Ag .i64 (((i:Int)).tdiv (2^v));rw[e1];clear e1 e2;generalize i/2^v=q at hq ⊢;exact AG.2 (by omega)
 .show Ag .i64 ((((i:Int)).tdiv (2^v)).tmod 2);rw[e1,e2];have hq2:i/2^v%2<2:=Nat.mod_lt _ (by omega);clear e1 e2;generalize i/2^v%2=q at hq2 ⊢;exact AG.2 (by omega)
 .show Q (decide ((((i:Int)).tdiv (2^v)).tmod 2=1),()) () H;have:decide ((((i:Int)).tdiv (2^v)).tmod 2=1)=decide (i/2^v%2=1):=by rw[e1,e2];exact decide_eq_decide.2 (by omega)
  rw[this];exact h
def IN(n k:Nat):B.As:=λv=>((List.range n).map λ(u:Nat)=>decide (k/2^u%2=1)).getD v.toNat false
theorem Aom{n k u:Nat}(h:u<n):IN n k (u:Int)=decide (k/2^u%2=1):=by unfold IN;rw[Int.toNat_natCast,List.getD_eq_getElem?_getD,List.getElem?_map,List.getElem?_range h];rfl
theorem Ac1{b:Nat}{M:Mn}{g:Int}{k:Nat}{F:B.Fn}(hM:JC H b M)(hI:MI M)(hg:M.A9 g=some F)(h8:M.S.n<=8)(hk:k<=1000000)(h:Q (F (IN M.S.n.toNat k),()) () H):Wp Y0 AY AP (some b,g,(k:Int),()) H Q X:=by
 apply Q5;unfold KJ;have hn:=@B4.JO M.S;refine⟨λm z H'=>H'=H/\m=M.S.n.toNat-z.2.1/\z.2.1<=M.S.n.toNat/\z.1=(List.range z.2.1).map λ(u:Nat)=>decide (k/2^u%2=1),⟨_,rfl,rfl,Nat.zero_le _,rfl⟩,?_⟩;rintro m ⟨l,v,_⟩ H' ⟨rfl,hm0,hv0,hl0⟩;have hm:m=M.S.n.toNat-v:=hm0;have hv:v<=M.S.n.toNat:=hv0;have hl:l=(List.range v).map λ(u:Nat)=>decide (k/2^u%2=1):=hl0;clear hm0 hv0 hl0;have hll:l.length=v:=by rw[hl];simp
 refine L5 hM hI ⟨λhlt=>?_,λhlt=>?_⟩
 .have hlt:(v:Int)<M.S.n:=hlt;refine KO hk (by omega) ⟨by show (l.length+1)*1<=_;omega,by show v+1<=_;omega,M.S.n.toNat-(v+1),by omega,rfl,rfl,by show v+1<=_;omega,?_⟩;show l++[_]=(List.range (v+1)).map _;rw[List.range_succ,List.map_append,hl];rfl
 .have hlt:¬(v:Int)<M.S.n:=hlt;have hvn:v=M.S.n.toNat:=by omega
  refine Abu hM hI hg (by rw[<-hvn];exact hll) ?_;have e:(λv:Int=>l.getD v.toNat false)=IN M.S.n.toNat k:=by unfold IN;rw[hl,hvn]
  refine⟨λht=>?_,λht=>?_⟩
  .have ht:F (λv:Int=>l.getD v.toNat false)=true:=ht;rw[e]at ht;rw[ht]at h;exact h
  .have ht:¬F (λv:Int=>l.getD v.toNat false)=true:=ht;rw[e]at ht;have:F (IN M.S.n.toNat k)=false:=by simpa using ht
   rw[this]at h;exact h
end
section
def nmE:ByteArray:={data:={toList:=[]:Array UInt8}:ByteArray}
def nmN:ByteArray:={data:={toList:=[(110:UInt8)]:Array UInt8}:ByteArray}
def PL:A7:={Name:=nmN,Bool:=false,Lo:=(0:Int),Hi:=(2:Int):A7}
def trN:AL:={Op:=(3:Int),N:=(0:Int),Name:=nmN,Kids:=[]:AL}
def tr1:AL:={Op:=(1:Int),N:=(1:Int),Name:=nmE,Kids:=[]:AL}
def trL:AL:={Op:=(14:Int),N:=(0:Int),Name:=nmE,Kids:=[trN,tr1]:AL}
theorem Amj:¬nmN={data:={toList:=[]:Array UInt8}:ByteArray}:=Af2.2 (by decide)
theorem Ak0(t:AL):AL.mk t.Op t.N t.Name t.Kids=t:=by cases t;rfl
variable {H:HY} {X:PX}
theorem Sc{op:Int}{Q:Int×Int×Unit->UU}(ho:op=1∨op=3)(h:Q (0,0,()) () H):Wp Y0 Kz Iw (op,()) H Q X:=by
 apply Ry;unfold Na;rcases ho with e|e<;>subst e <;>
 repeat' first
  |exact h
  |(intro h';exact absurd h' (by decide))
  |refine⟨?_,?_⟩
  |intro _
theorem Ab4{Q:Int×Int×Unit->UU}(h:Q (2,2,()) () H):Wp Y0 Kz Iw (14,()) H Q X:=by
 apply Ry;unfold Na;repeat' first
  |exact h
  |(intro h';exact absurd h' (by decide))
  |refine⟨?_,?_⟩
  |intro _
def Aop(t:AL):Prop:=∀(H:HY)(X:PX)(Q:Int×Unit->UU),Q (0,()) () H->Wp Y0 LZ Jt (t,()) H Q X
theorem Apl:Aop trN:=by
 intro H X Q h;apply LJ;unfold Jq;refine Sc (.inr rfl) ?_;repeat' first
  |exact h
  |(intro h';exact absurd h' Amj)
  |(intro h';exact absurd Amj h')
  |(intro h';exact absurd h' (by decide))
  |refine⟨?_,?_⟩
  |intro _
theorem Apn:Aop tr1:=by
 intro H X Q h;apply LJ;unfold Jq;refine Sc (.inl rfl) ?_;repeat' first
  |exact h
  |(intro h';exact absurd (show nmE=nmE from rfl) h')
  |(intro h';exact absurd h' (by decide))
  |refine⟨?_,?_⟩
  |intro _
theorem Apm:Aop trL:=by
 intro H X Q h;apply LJ;unfold Jq;refine Ab4 ?_;repeat' first
  |exact h
  |(intro h';exact absurd (show nmE=nmE from rfl) h')
  |(intro h';exact absurd h' (by decide))
  |refine⟨?_,?_⟩
  |intro _
def CkP:Nat->Int->AL->Prop
 |0,_,_=>False
 |f+1,deep,t=>deep<=64/\Aop t/\t.Kids.length<=64/\∀k∈t.Kids,CkP f (deep+1) k
def ZW:Nat->Nat
 |0=>0
 |f+1=>1+64*ZW f
abbrev CkC(n w:Nat):FT Y0 [.u 3,.int .i64] [.bool]:=λ(a:AL×Int×Unit)(H:HY)(Q:Bool×Unit->HP)(X:Nat->Lf Y0.D->HP)=>Wp Y0 HB FG (a.1,a.2.1,some n,some w,()) H (λ(b:Bool×Unit)(x:Unit)(H':HY)=>Q (b.1,()) H') X
variable {t:AL}
theorem Ar2{deep x y:Int}{n w:Nat}{Q:Bool×Unit->UU}(hw:Aop t)(hd:deep<=64)(hx:0<=x/\x+1<=4096)(hnw:n≠w)(h1:H n=some (.st Ch x))(h2:H w=some (.st Ch y))(h:Q (true,()) () (Ac (Ac H n (.st Ch (x+1))) w (.st Ch (0:Int)))):Wp Y0 HB FG (t,deep,some n,some w,()) H Q X:=by apply Ui;unfold N3;refine⟨n,rfl,x,h1,λ_=>⟨AG.2 (by omega),λhh=>absurd hh (by show ¬64<deep;omega),λ_=>hw _ _ _ ⟨w,rfl,y,by rw[Af _ _ (Ne.symm hnw)];exact h2,λ_=>⟨x+1,by rw[Af _ _ hnw,Ai];rfl,λhh=>absurd hh (by show ¬4096<x+1;omega),λ_=>⟨rfl,0,Ai _ _ _,rfl,h⟩⟩,λhh=>absurd rfl hh⟩⟩⟩
theorem Afu{n w:Nat}(hnw:n≠w):∀(f:Nat)(deep:Int)(t:AL)(x:Int){H:HY}{X:PX}{Q:Bool×Unit->UU},CkP f deep t->0<=deep->H n=some (.st Ch x)->H w=some (.st Ch (0:Int))->0<=x->x+(ZW f:Int)<=4096->(∀H' x',x<=x'->x'<=x+(ZW f:Int)->H' n=some (.st Ch x')->H' w=some (.st Ch (0:Int))->(∀c,c≠n->c≠w->H' c=H c)->Q (true,()) () H')->Wp Y0 IE GJ (t,deep,CkC n w,()) H Q X
 |0,_,_,_,_,_,_,h,_,_,_,_,_,_=>h.elim
 |f+1,deep,t,x,H,X,Q,⟨p1,p2,p3,p4⟩,hd,h1,h2,h3,h4,h=>by
  apply YD;unfold Rw;have hN:(ZW (f+1):Int)=1+64*(ZW f:Int):=by show ((1+64*ZW f:Nat):Int)=_;omega
  rw[hN]at h4 h;refine Ar2 p2 p1 ⟨h3,by omega⟩ hnw h1 h2 ⟨λhh=>absurd rfl hh,λ_ _=>⟨λm z H'=>m=t.Kids.length-z.1/\z.1<=t.Kids.length/\∃x',x<=x'/\x'<=x+1+(z.1:Int)*(ZW f:Int)/\H' n=some (.st Ch x')/\H' w=some (.st Ch (0:Int))/\∀c,c≠n->c≠w->H' c=H c,⟨_,rfl,Nat.zero_le _,x+1,by omega,by show x+1<=x+1+((0:Nat):Int)*(ZW f:Int);omega,by rw[Af _ _ hnw,Ai];rfl,Ai _ _ _,λc c1 c2=>by rw[Af _ _ c2,Af _ _ c1]⟩,?_⟩⟩;rintro m ⟨k,_⟩ H' ⟨hm0,hk0,x',hx1,hx20,g1,g2,g3⟩;have hm:m=t.Kids.length-k:=hm0;have hk:k<=t.Kids.length:=hk0;have hx2:x'<=x+1+(k:Int)*(ZW f:Int):=hx20;have hk64:(k:Int)*(ZW f:Int)<=64*(ZW f:Int):=Int.mul_le_mul_of_nonneg_right (by omega) (by omega);refine⟨λhkl _=>?_,λ_=>h H' x' hx1 (by omega) g1 g2 g3⟩;have hkl:k<t.Kids.length:=hkl;refine⟨hkl,λ_=>⟨AG.2 (by omega),?_⟩⟩;have hk1:((k+1:Nat):Int)*(ZW f:Int)=(k:Int)*(ZW f:Int)+(ZW f:Int):=by rw[show ((k+1:Nat):Int)=(k:Int)+1 by omega,Int.add_mul,Int.one_mul]
  have hk64':((k+1:Nat):Int)*(ZW f:Int)<=64*(ZW f:Int):=Int.mul_le_mul_of_nonneg_right (by omega) (by omega);show Wp Y0 IE GJ (AL.mk t.Kids[k].Op t.Kids[k].N t.Kids[k].Name t.Kids[k].Kids,deep+1,CkC n w,()) H' _ X;rw[Ak0];refine Afu hnw f (deep+1) t.Kids[k] x' (p4 _ (List.getElem_mem hkl)) (by omega) g1 g2 (by omega) (by omega) λH2 x2 q1 q2 q3 q4 q5=>⟨λhh=>absurd rfl hh,λ_=>⟨by show k+1<=_;omega,t.Kids.length-(k+1),by omega,rfl,by show k+1<=_;omega,x2,by omega,?_,q3,q4,λc c1 c2=>(q5 c c1 c2).trans (g3 c c1 c2)⟩⟩
  show x2<=x+1+((k+1:Nat):Int)*(ZW f:Int);rw[hk1];omega
theorem Ao4{f:Nat}{Q:Int×Unit->UU}(hc:CkP f 1 t)(hf:ZW f<=4096)(h:∀H',(∀c,H c≠none->H' c=H c)->Q (0,()) () H'):Wp Y0 Md Jv (t,()) H Q X:=by
 apply WW;unfold PR;intro w hw n hn;have hnw:n≠w:=λe=>by rw[e,Ai]at hn;cases hn
 have hn':H n=none:=by rw[Af _ _ hnw]at hn;exact hn
 refine⟨0,by rw[Af _ _ (Ne.symm hnw),Ai],0,by rw[Af _ _ hnw,Ai],?_⟩;refine Afu hnw f 1 t 0 hc (by decide) (Ai _ _ _) (by rw[Af _ _ (Ne.symm hnw),Ai]) (Int.le_refl _) (by omega) λH' x' _ _ _ g2 g3=>⟨0,g2,rfl,h H' λc hc0=>?_⟩
 have c1:c≠n:=λe=>hc0 (by rw[e];exact hn');have c2:c≠w:=λe=>hc0 (by rw[e];exact hw);rw[g3 c c1 c2,Af _ _ c1,Af _ _ c2,Af _ _ c1,Af _ _ c2]
theorem A4j:CkP 2 1 trL:=by
 refine⟨by decide,Apm,by decide,λk hk=>?_⟩;rcases List.mem_cons.1 hk with e|hk
 .rw[e];exact⟨by decide,Apl,by decide,λk hk=>by cases hk⟩
 .rw[List.mem_singleton.1 hk];exact⟨by decide,Apn,by decide,λk hk=>by cases hk⟩
def U9:List (ByteArray×Int):=[(nmN,0)]
theorem Amn{Q:List (ByteArray×Int)×Unit->UU}(h:Q (U9,()) () H):Wp Y0 Mc Ju ([PL],()) H Q X:=by
 apply WV;unfold PQ;refine λ_=>⟨λm z=>(m=1/\z.1=[]/\z.2.1=0)∨(m=0/\z.1=U9/\z.2.1=1),⟨_,rfl,.inl ⟨rfl,rfl,rfl⟩⟩,?_⟩
 rintro m ⟨mp,k,_⟩ hh;rcases hh with ⟨h1,h2,h3⟩|⟨h1,h2,h3⟩
 .have h2:mp=[]:=h2;have h3:k=0:=h3;subst h2 h3;refine⟨λ_ _=>⟨by show 0<1;decide,λ_=>⟨by show 0+1<=9223372036854775807;omega,0,by omega,rfl,.inr ⟨rfl,rfl,rfl⟩⟩,λhn=>absurd (show ¬(Ae ([]:List (ByteArray×Int)) nmN).isSome=true by simp [Ae]) hn⟩,λhn=>absurd (show 0<1 by decide) hn⟩
 .have h2:mp=U9:=h2;have h3:k=1:=h3;subst h2 h3;exact⟨λhn=>absurd hn (by show ¬1<1;decide),λ_=>h⟩
theorem YM{lo hi:Int}{Q:Aj×Int×Unit->UU}(h1:-1048576<=lo)(h2:hi<=1048576)(h3:lo<=hi)(h4:hi-lo<=4096)(h:Q ({Bool:=false,Lo:=lo,Hi:=hi:Aj},0,()) () H):Wp Y0 Cj BR (lo,hi,()) H Q X:=by apply YE;unfold Rx;exact⟨λhn=>by omega,λ_=>⟨λhn=>by omega,λ_=>⟨λhn=>by omega,λ_ _ _=>⟨AG.2 (by omega),λhn=>by omega,λ_=>h⟩⟩⟩⟩
theorem Avx:Ae U9 nmN=some 0:=by simp [Ae,U9]
variable {Q:Aj×Int×Unit->List (ByteArray×Int)×Unit->HP}
theorem Au2(h:Q ({Bool:=false,Lo:=1,Hi:=1:Aj},0,()) (U9,()) H):Wp Y0 GQ F1 ([PL],U9,tr1,true,[],()) H Q X:=by apply MZ;unfold Kx;exact⟨λ_=>YM (by decide) (by decide) (by decide) (by decide) h,λhn=>absurd rfl hn⟩
theorem Au0(h:Q ({Bool:=false,Lo:=0,Hi:=2:Aj},0,()) (U9,()) H):Wp Y0 GQ F1 ([PL],U9,trN,true,[],()) H Q X:=by
 apply MZ;unfold Kx;have e:Ae U9 trN.Name=some 0:=Avx;rw[e];have fin:Wp Y0 Cj BR (PL.Lo,PL.Hi,()) H (λ(b:Aj×Int×Unit)io H'=>Q (b.1,b.2.1,()) (U9,()) H') X:=YM (by decide) (by decide) (by decide) (by decide) h;repeat' first
  |exact fin
  |(intro h';exact absurd h' (by decide))
  |refine⟨?_,?_⟩
  |intro _
  |decide
theorem Au1(h:Q ({Bool:=false,Lo:=1,Hi:=3:Aj},0,()) (U9,()) H):Wp Y0 GQ F1 ([PL],U9,trL,true,[{Bool:=false,Lo:=0,Hi:=2:Aj},{Bool:=false,Lo:=1,Hi:=1:Aj}],()) H Q X:=by
 apply MZ;unfold Kx;have fin:Wp Y0 Jm GK ((14:Int),{Bool:=false,Lo:=0,Hi:=2:Aj},{Bool:=false,Lo:=1,Hi:=1:Aj},()) H (λ(b:Aj×Int×Unit)io H'=>Q (b.1,b.2.1,()) (U9,()) H') X:=by apply Ta;unfold Mo;exact⟨λhn=>absurd hn (by decide),λ_=>⟨λ_ _ _=>⟨AG.2 (by decide),λ_ _=>⟨AG.2 (by decide),YM (by decide) (by decide) (by decide) (by decide) h⟩⟩,λhn=>absurd rfl hn⟩⟩
 repeat' first
  |exact fin
  |(intro h';exact absurd h' (by decide))
  |refine⟨?_,?_⟩
  |intro _
  |decide
def Ash(t:AL)(ty:Aj):Prop:=∀(H:HY)(X:PX)(Q:Aj×Int×Unit->List (ByteArray×Int)×Unit->HP),Q (ty,0,()) (U9,()) H->Wp Y0 FQ EG ([PL],U9,t,true,()) H Q X
theorem Afw{ty:Aj}(hk:t.Kids=[])(hp:∀(H:HY)(X:PX)(Q:Aj×Int×Unit->List (ByteArray×Int)×Unit->HP),Q (ty,0,()) (U9,()) H->Wp Y0 GQ F1 ([PL],U9,t,true,[],()) H Q X):Ash t ty:=by
 intro H X Q h;apply PO;unfold LK;refine λ_=>⟨λm z=>z.1=U9/\z.2.2.1=[]/\z.2.2.2.1=0,⟨0,rfl,rfl,rfl,rfl⟩,?_⟩
 rintro m ⟨mp,bl,l,k,_⟩ ⟨h1,h2,h3⟩;have h1:mp=U9:=h1;have h2:l=[]:=h2;have h3:k=0:=h3;subst h1 h2 h3;exact⟨λhn=>absurd hn (by show ¬0<t.Kids.length;rw[hk];exact Nat.lt_irrefl _),λ_=>hp _ _ _ h⟩
theorem A12:Ash trN {Bool:=false,Lo:=0,Hi:=2:Aj}:=Afw rfl λ_ _ _ h=>Au0 h
theorem A14:Ash tr1 {Bool:=false,Lo:=1,Hi:=1:Aj}:=Afw rfl λ_ _ _ h=>Au2 h
theorem A13:Ash trL {Bool:=false,Lo:=1,Hi:=3:Aj}:=by
 intro H X Q h;apply PO;unfold LK;refine λ_=>⟨λm z=>m=2-z.2.2.2.1/\z.1=U9/\((z.2.2.2.1=0/\z.2.2.1=[])∨(z.2.2.2.1=1/\z.2.2.1=[{Bool:=false,Lo:=0,Hi:=2:Aj}])∨(z.2.2.2.1=2/\z.2.2.1=[{Bool:=false,Lo:=0,Hi:=2:Aj},{Bool:=false,Lo:=1,Hi:=1:Aj}])),⟨_,rfl,rfl,rfl,.inl ⟨rfl,rfl⟩⟩,?_⟩
 rintro m ⟨mp,bl,l,k,_⟩ ⟨h0,h1,h23⟩;have h1:mp=U9:=h1;subst h1;rcases h23 with ⟨h2,h3⟩|⟨h2,h3⟩|⟨h2,h3⟩
 .have h2:k=0:=h2;have h3:l=[]:=h3;subst h2 h3;refine⟨λ_ _=>⟨by show 0<2;decide,?_⟩,λhn=>absurd (show 0<2 by decide) hn⟩;show Wp Y0 FQ EG ([PL],U9,trN,true,()) H _ X;exact A12 _ _ _ ⟨λhn=>absurd rfl hn,λ_=>⟨by show (0+1)*24<=140737488355328;omega,by show 0+1<=9223372036854775807;omega,1,by show 1<m;have:m=2-0:=h0;omega,rfl,rfl,rfl,.inr (.inl ⟨rfl,rfl⟩)⟩⟩
 .have h2:k=1:=h2;have h3:l=[{Bool:=false,Lo:=0,Hi:=2:Aj}]:=h3;subst h2 h3;refine⟨λ_ _=>⟨by show 1<2;decide,?_⟩,λhn=>absurd (show 1<2 by decide) hn⟩;show Wp Y0 FQ EG ([PL],U9,tr1,true,()) H _ X;exact A14 _ _ _ ⟨λhn=>absurd rfl hn,λ_=>⟨by show (1+1)*24<=140737488355328;omega,by show 1+1<=9223372036854775807;omega,0,by show 0<m;have:m=2-1:=h0;omega,rfl,rfl,rfl,.inr (.inr ⟨rfl,rfl⟩)⟩⟩
 .have h2:k=2:=h2;have h3:l=[{Bool:=false,Lo:=0,Hi:=2:Aj},{Bool:=false,Lo:=1,Hi:=1:Aj}]:=h3;subst h2 h3;exact⟨λhn=>absurd hn (by show ¬2<2;decide),λ_=>Au1 h⟩
theorem Axx{Q:Aj×Int×Unit->UU}(h:∀H',(∀c,H c≠none->H' c=H c)->Q ({Bool:=false,Lo:=1,Hi:=3:Aj},0,()) () H'):Wp Y0 K0 Ix ([PL],trL,true,()) H Q X:=by apply YF;unfold Rz;exact Ao4 A4j (by decide) λH' f=>⟨λhn=>absurd rfl hn,λ_=>Amn (A13 _ _ _ (h H' f))⟩
end
section
variable {L:Ad} {i:Nat}
theorem Ml.A4f(h:Ml L)(hi:i<L.Ab.length):Eg L.Ab[i]<=MD L.Ab[i]/\(Nu L.Ab[i]:Int)=MD L.Ab[i]-Eg L.Ab[i]+1:=by obtain⟨f1,f2,f3,f4⟩:=h.fit i hi (by rw[h.lb];exact hi);unfold Nu;omega
variable {next:Bool} {a:B.As}
theorem XJ(hL:Ml L)(hi:i<L.Ab.length):PT L next i ((L.Ab[i]?.map Nu).getD 0) a=true↔(Kq L next i a).isSome=true:=by
 have hc:=hL.A4f hi;unfold PT Alz;rw[List.getElem?_eq_getElem hi];simp only[Option.map_some,Option.getD_some,List.any_eq_true,List.mem_map,List.mem_range];constructor
 .rintro⟨F,⟨j,hj,rfl⟩,hF⟩;have:=(MC hL hi (next:=next) (a:=a) (n:=Eg L.Ab[i]+(j:Int))).2 ⟨by omega,hF⟩;rw[this];rfl
 .intro h;obtain⟨n,hn⟩:=Option.isSome_iff_exists.1 h;obtain⟨h1,h2⟩:=(MC hL hi).1 hn;exact⟨_,⟨(n-Eg L.Ab[i]).toNat,by omega,rfl⟩,by rw[show Eg L.Ab[i]+(((n-Eg L.Ab[i]).toNat:Nat):Int)=n by omega];exact h2⟩
theorem W4(hL:Ml L):Ia L next L.Ab.length a=true↔∀i(_:i<L.Ab.length),(Kq L next i a).isSome=true:=by
 unfold Ia Ac2;simp only[List.all_eq_true,List.mem_map,List.mem_range];constructor
 .intro h i hi;exact(XJ hL hi).1 (h _ ⟨i,hi,rfl⟩)
 .rintro h F ⟨i,hi,rfl⟩;exact(XJ hL hi).2 (h i hi)
theorem Ud{a b:B.As}:∀{l:List Int},(∀v∈l,a v=b v)->BB a l=BB b l
 | [],_=>rfl
 |v::l,h=>by rw[HZ,HZ,h v List.mem_cons_self,Ud λu hu=>h u (List.mem_cons_of_mem _ hu)]
theorem Ai1(hL:Kc L){n:Int}(hn:2*DP L<=n)(hi:i<L.Ab.length):VD n (Kq L next i):=λa b e=>by have:=(Vb hL hi (next:=next)).2.2;have h1:BB a (Co L i next)=BB b (Co L i next):=Ud λv hv=>e v (this v hv).1 (by have:=(this v hv).2;omega);unfold Kq;rw[h1]
noncomputable def LL:Ad:=CT [PL]
def aL:AS:={Ab:=[PL],Order:=[],EN:=[]}
theorem Avj:Aj2 nmN:=by
 refine⟨by decide,by decide,λ_=>?_,λi h=>?_,λh=>?_⟩
 .show Ci 110=true;decide
 .have h:i<1:=h;obtain rfl:i=0:=by omega
  show NV 110=true;decide
 .have:=List.mem_map_of_mem (f:=λs:ByteArray=>s.data.toList) h;revert this;show ¬[(110:UInt8)]∈GY.map λs=>s.data.toList;decide
theorem Akq:Qz [PL]:=by
 refine⟨λi h=>?_,λk i hi hk=>?_⟩
 .have h:i<1:=h;obtain rfl:i=0:=by omega
  exact⟨Avj,λe=>absurd e (by show ¬PL.Bool=true;decide),λ_=>by show PL.Lo<=PL.Hi/\-255<=PL.Lo/\PL.Hi<=255/\PL.Hi-PL.Lo<64;decide⟩
 .have hi:i<1:=hi;omega
theorem Atl:Eu (CL PL)=2:=by
 have:CL PL=3:=by decide
 rw[this];exact SG ⟨by decide,λj hj=>by
  have:j=0∨j=1:=by omega
  rcases this with e|e<;>subst e<;>decide⟩
theorem At4:Ev [PL]=2:=by unfold Ev D5 BK;simp [Atl]
theorem Aj4:Ml LL:=ZC Akq (by decide)
theorem Aff:DP LL=2:=We.trans At4
theorem smL:Aov aL:=⟨Akq,by decide,by show 0<=Ev [PL]/\Ev [PL]<=4;rw[At4];decide,by decide,λi h=>absurd h (Nat.not_lt_zero _),.inl rfl⟩
theorem Ap1:Co LL 0 next=if next=true then [1,3] else [0,2]:=by
 have h1:Ns LL 0=[0,2]:=by
  unfold Ns;have e1:LL.Bits[0]?=some 2:=by show (BK [PL])[0]?=some 2;unfold BK;simp [Atl]
  have e2:LL.At[0]?=some 0:=by show (NX [PL])[0]?=some 0;unfold NX;simp [D5]
  rw[e1,e2];rfl
 unfold Co;rw[h1];rfl
theorem Po:Kq LL next 0 a=if BB a (if next=true then [1,3] else [0,2])<=2 then some (BB a (if next=true then [1,3] else [0,2]):Int) else none:=by
 have e:LL.Ab[0]?=some PL:=rfl;unfold Kq;rw[e,Ap1];generalize BB a (if next=true then [1,3] else [0,2])=k;show (if (0:Int)+(k:Int)<=2 then some ((0:Int)+(k:Int)) else none)=_;by_cases h:k<=2
 .rw[if_pos h,if_pos (by omega),Int.zero_add]
 .rw[if_neg h,if_neg (by omega)]
theorem Aeq:VK LL.Ab trN.Name=0:=by show List.findIdx (λv:A7=>decide (v.Name=nmN)) [PL]=0;have:decide (PL.Name=nmN)=true:=decide_eq_true rfl;simp [List.findIdx_cons,this]
noncomputable def VL:B.As->Option Int:=opV (opF trL.Op) (Kq LL (decide (trN.Op=4)) (VK LL.Ab trN.Name)) (λ_=>some tr1.N)
theorem Aoq:VL a=if BB a [0,2]<=2 then some ((BB a [0,2]:Int)+1) else none:=by
 unfold VL opV;rw[Aeq,show decide (trN.Op=4)=false from rfl,Po];show Option.bind (if BB a [0,2]<=2 then some (BB a [0,2]:Int) else none) _=_;by_cases h:BB a [0,2]<=2
 .rw[if_pos h,if_pos h];rfl
 .rw[if_neg h,if_neg h];rfl
theorem Azj{n0:Int}(hfit:2*DP LL<=n0):X8 LL n0 trL (gV VL) 256 (20+1+32+2000) (256+16+1+20+1):=by
 have hi:VK LL.Ab trN.Name<LL.Ab.length:=by rw[Aeq];decide
 unfold VL;intro wb b M0 M lv H X Q;refine Ai0 (t:=trL) (ta:=trN) (tc:=tr1) (W:=2) (Z:=32) (.inl rfl) rfl (Abi Aj4 hfit (.inl rfl) hi) (Zp (t:=tr1) rfl) ?_ (λ_ _ _=>rfl) (λa n h=>?_) (λa n h=>?_) (λe=>absurd e (by decide)) (by decide) (by decide) rfl rfl
 .exact Ai1 Aj4.toKc (by rw[Aff];decide) hi
 .rw[Aeq,show decide (trN.Op=4)=false from rfl,Po]at h;have h:(if BB a [0,2]<=2 then some (BB a [0,2]:Int) else none)=some n:=h;generalize BB a [0,2]=q at h;by_cases h1:q<=2
  .rw[if_pos h1]at h;have h:=Option.some.inj h;omega
  .rw[if_neg h1]at h;cases h
 .have h:=Option.some.inj h;have:n=1:=h.symm;omega
theorem A4r:EM (Ia LL false LL.Ab.length) (Ia LL true LL.Ab.length) a=true↔BB a [0,2]<=2/\BB a [1,3]<=2:=by
 have one:∀{next:Bool},Ia LL next LL.Ab.length a=true↔BB a (if next=true then [1,3] else [0,2])<=2:=λ{next}=>by
  rw[W4 Aj4];refine⟨λh=>?_,λh i hi=>?_⟩
  .have:=h 0 (by decide);rw[Po]at this;generalize BB a (if next=true then [1,3] else [0,2])=k at this ⊢;by_cases h1:k<=2
   .exact h1
   .rw[if_neg h1]at this;cases this
  .have hi:i<1:=hi;obtain rfl:i=0:=by omega
   rw[Po,if_pos h];rfl
 unfold EM;rw[Bool.and_eq_true,one,one];rfl
theorem Apx{l:List Int}(hs:l.Pairwise (·<·))(hm:∀n,n∈l↔n=1∨n=2∨n=3):l=[1,2,3]:=by
 have p:l.Perm [1,2,3]:=(List.perm_ext_iff_of_nodup (hs.imp λh=>by omega) (by decide)).2 λn=>by rw[hm];simp
 exact List.Perm.eq_of_pairwise (le:=λa b=>a<b) (λa b _ _ h1 h2=>by omega) hs (by decide) p
theorem Aod{M M':Mn}{cs:List BS}(h:Afg M M' VL (EM (Ia LL false LL.Ab.length) (Ia LL true LL.Ab.length)) cs):cs.map (·.N)=[1,2,3]:=by
 refine Apx h.srt λn=>?_;rw[h.mem];refine⟨λ⟨a,h1,h2⟩=>?_,λhn=>?_⟩
 .rw[Aoq]at h1;split at h1
  .have h1:=Option.some.inj h1;omega
  .cases h1
 .have mk:∀(x y:Bool)(k:Int),BB (λv=>if v=0 then x else if v=2 then y else false) [0,2]<=2->((BB (λv=>if v=0 then x else if v=2 then y else false) [0,2]:Nat):Int)+1=k->BB (λv=>if v=0 then x else if v=2 then y else false) [1,3]<=2->∃a,VL a=some k/\EM (Ia LL false LL.Ab.length) (Ia LL true LL.Ab.length) a=true:=λx y k h1 h2 h3=>⟨_,by rw[Aoq,if_pos h1,h2],A4r.2 ⟨h1,h3⟩⟩
  rcases hn with e|e|e
  .rw[e];exact mk false false 1 (by decide) (by decide) (by decide)
  .rw[e];exact mk true false 2 (by decide) (by decide) (by decide)
  .rw[e];exact mk false true 3 (by decide) (by decide) (by decide)
theorem Aby{H:HY}{X:PX}{Q:Bool×Unit->UU}(h:∀H',Q (true,()) () H'):Wp Y0 Br Bk () H Q X:=by
 apply NN;unfold Ja;refine Ac8 (a:=aL) smL λb M H1 mn mi mv ws rm nm=>⟨λhn=>absurd rfl hn,λ_=>?_⟩
 have hn4:M.S.n=4:=by rw[nm.n];show 2*Ev [PL]=4;rw[At4];rfl
 have g:MG H1 b M:=⟨mn,mi,mv,(by rw[ws];intro ev hev;cases hev),by omega,rm⟩
 have hfit:2*DP LL<=M.S.n:=by rw[Aff,hn4];decide
 have nx2:=nm.nx;have ln2:=nm.ln;refine W0 (L:=LL) (t:=trL) (V:=VL) (y:={Bool:=false,Lo:=1,Hi:=3:Aj}) (e:=0) (bd:=256) (c:=20+1+32+2000) (pk:=256+16+1+20+1) g (by omega) (by omega) Aj4 hfit (λH X Q hq=>Axx hq) (λ_ _=>Azj hfit) (λhh=>absurd rfl hh) (λ_ hh=>absurd hh (by decide)) λ_ _ M2 H2 cs g2 cr nx3 _=>?_;have c3:=Aod cr;have l3:cs.length=3:=by have:=congrArg List.length c3;rw[List.length_map]at this;exact this
 obtain⟨c0,c1,c2,rfl⟩:∃c0 c1 c2,cs=[c0,c1,c2]:=by
  match cs,l3 with
  | [c0,c1,c2],_=>exact⟨c0,c1,c2,rfl⟩
 have e0:c0.N=1:=by have:=congrArg (λl:List Int=>l[0]?) c3;exact Option.some.inj this
 have e1:c1.N=2:=by have:=congrArg (λl:List Int=>l[1]?) c3;exact Option.some.inj this
 have e2:c2.N=3:=by have:=congrArg (λl:List Int=>l[2]?) c3;exact Option.some.inj this
 have ln3:=cr.ln;have n2:M2.S.n=4:=cr.bs.n.trans hn4;refine OY (L:=LL) (next:=false) g2 (by omega) (by rw[ln3,ln2];simp) Aj4 (λhlt=>absurd hlt (by rw[n2,Aff];decide)) λ_ M3 H3 r g3 got nx4 _=>?_;have n3:M3.S.n=4:=got.bs.n.trans n2;have hv:=got.A9 r;rw[if_pos rfl]at hv;have val:∀k,Ia LL false LL.Ab.length (IN M3.S.n.toNat k)=true↔BB (IN M3.S.n.toNat k) [0,2]<=2:=λk=>by
  rw[W4 Aj4];refine⟨λh=>?_,λh i hi=>?_⟩
  .have:=h 0 (by decide);rw[Po]at this;have this:(if BB (IN M3.S.n.toNat k) [0,2]<=2 then some (BB (IN M3.S.n.toNat k) [0,2]:Int) else none).isSome=true:=this;generalize BB (IN M3.S.n.toNat k) [0,2]=q at this ⊢;by_cases h1:q<=2
   .exact h1
   .rw[if_neg h1]at this;cases this
  .have hi:i<1:=hi;obtain rfl:i=0:=by omega
   rw[Po];show (if BB (IN M3.S.n.toNat k) [0,2]<=2 then some (BB (IN M3.S.n.toNat k) [0,2]:Int) else none).isSome=true;rw[if_pos h];rfl
 have n3':M3.S.n.toNat=4:=by rw[n3];rfl
 have hc1:M3.A9 c1.H=some (gV VL 2):=by
  have h1:=cr.A9 c1 (by simp);rw[e1]at h1;rw[got.A9,if_neg λe=>?_]
  .exact h1
  .have h2:=got.ge;have h3:∃x,Ae M2.hs c1.H=some x:=by obtain⟨x,hx,_⟩:=Mn.Fm h1;exact⟨x,hx⟩
   obtain⟨x,hx⟩:=h3;have:=(g2.i.ok _ _ hx).2.2;omega
 refine⟨λ_=>⟨λ_ _=>⟨λ_=>⟨λ_=>by omega,by show 0<3;decide,by show 0<3;decide,λ_=>⟨λ_=>by omega,by show 2<3;decide,by show 2<3;decide,λ_=>Ac1 (k:=4) g3.h g3.i hv (by omega) (by decide) ⟨λ_=>Ac1 (k:=5) g3.h g3.i hv (by omega) (by decide) ⟨λ_=>⟨λ_=>by omega,by show 1<3;decide,by show 1<3;decide,Ac1 (k:=1) g3.h g3.i hc1 (by omega) (by decide) ?_⟩,λhn=>?_⟩,λhn=>?_⟩,λhn=>absurd e2 hn⟩,λhn=>absurd e0 hn⟩,λhn=>absurd rfl hn⟩,λhn=>absurd rfl hn⟩,λhn=>absurd rfl hn⟩
 .have:gV VL 2 (IN M3.S.n.toNat 1)=true:=by
   rw[Lb,Aoq,n3'];have:BB (IN 4 1) [0,2]=1:=by decide
   rw[this];rfl
  rw[this];exact h H3
 .have hn:¬¬Ia LL false LL.Ab.length (IN M3.S.n.toNat 5)=true:=hn;have:=(val 5).1 (Classical.not_not.1 hn);rw[n3']at this;exact absurd this (by decide)
 .have hn:¬Ia LL false LL.Ab.length (IN M3.S.n.toNat 4)=true:=hn;refine absurd ((val 4).2 ?_) hn;rw[n3'];decide
end
end Go.Proofs.YtcbkbpjlbmalmaaGreatDoor
