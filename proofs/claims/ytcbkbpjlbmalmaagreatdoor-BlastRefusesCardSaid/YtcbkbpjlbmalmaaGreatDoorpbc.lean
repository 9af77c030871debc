/-
  The chapter's example: its term and its type. (Merged by program out of 6 texts.)
-/
import Derived.Test.YtcbkbpjlbmalmaaGreatDoorpbb
import Derived.Test.YtcbkbpjlbmalmaaGreatDoorpaw
import Derived.Test.YtcbkbpjlbmalmaaGreatDoorpat
namespace Go.Proofs.YtcbkbpjlbmalmaaGreatDoor
open Go Go.X Go.Y
section
structure Azt(v:Bi):Prop where
 nm:Avs v.Name
 bo:v.Bool=true->v.Lo=0/\v.Hi=0
 nu:v.Bool=false->v.Lo<=v.Hi/\-255<=v.Lo/\v.Hi<=255/\v.Hi-v.Lo<64
structure Aks(l:List Bi):Prop where
 ok:∀i(h:i<l.length),Azt l[i]
 ne:∀k i(hi:i<l.length)(hk:k<i),(l[k]'(by omega)).Name≠l[i].Name
def G3(v:Bi):Int:=if v.Bool=true then 2 else if v.Hi<v.Lo then 0 else min (v.Hi-v.Lo) 1073741824+1
theorem Af3(v:Bi):0<=G3 v/\G3 v<=1073741825:=by
 unfold G3;split
 .omega
 .split<;>omega
theorem Avz(x:Int):IntKind.u64.wrap x=x%18446744073709551616:=by simp [IntKind.wrap,IntKind.bits,IntKind.signed]
variable {v:Bi}
theorem Ajm(h1:InK .i64 v.Hi)(h2:InK .i64 v.Lo)(h:¬v.Hi<v.Lo):IntKind.u64.wrap (IntKind.u64.wrap v.Hi-IntKind.u64.wrap v.Lo)=v.Hi-v.Lo:=by have:=Bk.1 h1;have:=Bk.1 h2;rw[Avz,Avz,Avz];omega
variable {H:HY} {X:PX} {Q:Int×Unit->UU}
theorem Afv(h:Q (G3 v,()) () H):Wp Y0 Te O7 (v,()) H Q X:=by
 refine Aif _ _ _ _ ?_;unfold Yw;unfold G3 at h;refine⟨λhb=>by rw[if_pos hb]at h;exact h,λhb=>?_⟩;rw[if_neg hb]at h;refine⟨λhl=>by rw[if_pos hl]at h;exact h,λhl h1 h2 _ _=>?_⟩;rw[if_neg hl]at h;rw[Ajm h1 h2 hl];refine⟨λhlt _ _=>?_,λhlt=>?_⟩
 .have e:Go.IntKind.wrap .i64 (v.Hi-v.Lo)=v.Hi-v.Lo:=Hc (Bk.2 (by omega));rw[e];exact⟨Bk.2 (by omega),by rw[show v.Hi-v.Lo+1=min (v.Hi-v.Lo) 1073741824+1 by omega];exact h⟩
 .rw[show (1073741825:Int)=min (v.Hi-v.Lo) 1073741824+1 by omega];exact h
theorem Y5(h:Q (G3 v,()) () H):Wp Y0 Ft Eg (v,()) H Q X:=by
 refine V8 _ _ _ _ ?_;unfold Pv;unfold G3 at h;refine⟨λhb=>by rw[if_pos hb]at h;exact h,λhb=>?_⟩;rw[if_neg hb]at h;refine⟨λhl=>by rw[if_pos hl]at h;exact h,λhl h1 h2 _ _=>?_⟩;rw[if_neg hl]at h;rw[Ajm h1 h2 hl];refine⟨λhlt _=>?_,λhlt _ _=>?_⟩
 .have e:Go.IntKind.wrap .i64 1073741824=1073741824:=Hc (Bk.2 (by omega));rw[e];exact⟨Bk.2 (by omega),by rw[show (1073741824:Int)+1=min (v.Hi-v.Lo) 1073741824+1 by omega];exact h⟩
 .have e:Go.IntKind.wrap .i64 (v.Hi-v.Lo)=v.Hi-v.Lo:=Hc (Bk.2 (by omega));rw[e];exact⟨Bk.2 (by omega),by rw[show v.Hi-v.Lo+1=min (v.Hi-v.Lo) 1073741824+1 by omega];exact h⟩
def IsB(n:Int)(k:Nat):Prop:=n<=2^k/\∀j,j<k->(2:Int)^j<n
variable {n:Int}
theorem IsB.uni{k k':Nat}(h:IsB n k)(h':IsB n k'):k=k':=by
 refine Classical.byContradiction λhne=>?_;rcases Nat.lt_or_gt_of_ne hne with hl|hl
 .have:=h'.2 k hl;have:=h.1;omega
 .have:=h.2 k' hl;have:=h'.1;omega
noncomputable def Jp(n:Int):Nat:=Classical.epsilon (IsB n)
theorem Acu{k:Nat}(h:IsB n k):Jp n=k:=(Classical.epsilon_spec (p:=IsB n) ⟨k,h⟩).uni h
theorem Aea(k:Nat):(2:Int)^k=((2^k:Nat):Int):=by norm_cast
theorem An7(hn:n<=1073741825)(h:IsB n (Jp n)->Jp n<=31->Q ((Jp n:Int),()) () H):Wp Y0 Aah Ut (n,()) H Q X:=by
 refine Aqn _ _ _ _ ?_;unfold Agq;refine⟨λm z=>m=31-z.1/\z.1<=31/\∀j,j<z.1->(2:Int)^j<n,⟨_,rfl,rfl,Nat.zero_le _,λj hj=>absurd hj (Nat.not_lt_zero _)⟩,?_⟩;rintro m ⟨k,_⟩ ⟨hm0,hk0,hj0⟩;have hm:m=31-k:=hm0;have hk:k<=31:=hk0;have hj:∀j,j<k->(2:Int)^j<n:=hj0;clear hm0 hk0 hj0;have hp:2^k<=2^31:=Nat.pow_le_pow_right (by omega) hk;have h31:(2:Nat)^31=2147483648:=by decide
 have ew:Go.IntKind.wrap .i64 (1*2^min ((k:Int)).toNat 64)=(2:Int)^k:=by
  rw[show min ((k:Int)).toNat 64=k by omega,Int.one_mul];have h2k:(0:Int)<=2^k/\(2:Int)^k<=2147483648:=by rw[Aea];exact⟨Int.natCast_nonneg _,by show ((2^k:Nat):Int)<=((2147483648:Nat):Int);exact Int.ofNat_le.2 (by omega)⟩
  generalize (2:Int)^k=p at h2k;exact Hc (Bk.2 (by omega))
 refine⟨λ_ _=>⟨λe=>absurd e (by decide),by show (0:Int)<=(k:Int);omega,λhle=>?_,λhle=>?_⟩,λhlt=>absurd (show k<63 by omega) hlt⟩
 .have hle:n<=Go.IntKind.wrap .i64 (1*2^min ((k:Int)).toNat 64):=hle;rw[ew]at hle;have hb:IsB n k:=⟨hle,hj⟩
  have e:=Acu hb;rw[e]at h;exact h hb hk
 .have hle:¬n<=Go.IntKind.wrap .i64 (1*2^min ((k:Int)).toNat 64):=hle;rw[ew]at hle;have hk31:k≠31:=λe=>by subst e;rw[Aea,h31]at hle;omega
  refine⟨by show k+1<=_;omega,31-(k+1),by omega,rfl,rfl,by show k+1<=31;omega,λj hjk=>?_⟩;have hjk:j<k+1:=hjk;by_cases e:j=k
  .rw[e];omega
  .exact hj j (by omega)
theorem Air(h0:0<=n)(hn:n<=1073741825)(h:IsB n (Jp n)->Jp n<=40->Q ((Jp n:Int),()) () H):Wp Y0 Km Hf (n,()) H Q X:=by
 refine Wb _ _ _ _ ?_;unfold Py;refine⟨λm z=>m=z.1.toNat/\0<=z.1/\z.1*2^z.2.1<n+2^z.2.1/\n<=z.1*2^z.2.1/\z.2.1<=31/\(z.1<=1∨z.2.1<=30)/\∀j,j<z.2.1->(2:Int)^j<n,⟨_,rfl,rfl,h0,by show n*1<n+1;omega,by show n<=n*1;omega,Nat.zero_le _,.inr (Nat.zero_le _),λj hj=>absurd hj (Nat.not_lt_zero _)⟩,?_⟩;rintro m ⟨x,k,_⟩ ⟨hm0,hx0,hu0,hl0,hk0,hk10,hj0⟩;have hm:m=x.toNat:=hm0;have hx:0<=x:=hx0;have hu:x*2^k<n+2^k:=hu0;have hl:n<=x*2^k:=hl0;have hk:k<=31:=hk0;have hk1:x<=1∨k<=30:=hk10;have hj:∀j,j<k->(2:Int)^j<n:=hj0;clear hm0 hx0 hu0 hl0 hk0 hk10 hj0;have hpos:(0:Int)<2^k:=by rw[Aea];have:0<2^k:=Nat.pow_pos (by omega);omega
 have ep:(2:Int)^(k+1)=2*2^k:=by rw[Int.pow_succ];omega
 have hxn:x<=n+1:=by
  refine Classical.byContradiction λhn'=>?_;have h1:(x-1)*1<=(x-1)*2^k:=Int.mul_le_mul_of_nonneg_left (by omega) (by omega);have e1:(x-1)*2^k=x*2^k-2^k:=by rw[Int.sub_mul,Int.one_mul]
  omega
 refine⟨λh1 _=>?_,λh1=>?_⟩
 .have h1:1<x:=h1;have ed:x.tdiv 2=x/2:=Int.tdiv_eq_ediv_of_nonneg hx;have em:x.tmod 2=x%2:=Int.tmod_eq_emod_of_nonneg hx;refine⟨by decide,Bk.2 (by show _<=x.tdiv 2/\x.tdiv 2<=_;rw[ed];omega),λ_=>⟨by decide,Bk.2 (by show _<=x.tmod 2/\x.tmod 2<=_;rw[em];omega),λ_ _=>⟨Bk.2 (by show _<=x.tdiv 2+x.tmod 2/\x.tdiv 2+x.tmod 2<=_;rw[ed,em];omega),by show k+1<=_;omega,(x.tdiv 2+x.tmod 2).toNat,?_,rfl,rfl,?_,?_,?_,?_,?_,λj hjk=>?_⟩⟩⟩
  .rw[ed,em];omega
  .show 0<=x.tdiv 2+x.tmod 2;rw[ed,em];omega
  .show (x.tdiv 2+x.tmod 2)*2^(k+1)<n+2^(k+1);rw[ed,em,ep];have e2:2*(x/2+x%2)<=x+1:=by omega
   have h3:(2*(x/2+x%2))*2^k<=(x+1)*2^k:=Int.mul_le_mul_of_nonneg_right e2 (by omega);rw[Int.add_mul,Int.one_mul]at h3;have h4:(x/2+x%2)*(2*2^k)=(2*(x/2+x%2))*2^k:=by rw[<-Int.mul_assoc,Int.mul_comm (x/2+x%2) 2]
   rw[h4];omega
  .show n<=(x.tdiv 2+x.tmod 2)*2^(k+1);rw[ed,em,ep];have e2:x<=2*(x/2+x%2):=by omega
   have h3:x*2^k<=(2*(x/2+x%2))*2^k:=Int.mul_le_mul_of_nonneg_right e2 (by omega);have h4:(x/2+x%2)*(2*2^k)=(2*(x/2+x%2))*2^k:=by rw[<-Int.mul_assoc,Int.mul_comm (x/2+x%2) 2]
   rw[h4];omega
  .show k+1<=31;omega
  .show x.tdiv 2+x.tmod 2<=1∨k+1<=30;rw[ed,em];by_cases e:k=30
   .refine .inl ?_;subst e;have h30:(2:Int)^30=1073741824:=by decide
    rw[h30]at hu;omega
   .exact .inr (by omega)
  .have hjk:j<k+1:=hjk;by_cases e:j=k
   .rw[e];have h5:2*2^k<=x*2^k:=Int.mul_le_mul_of_nonneg_right (by omega) (by omega);omega
   .exact hj j (by omega)
 .have h1:¬1<x:=h1;have hb:IsB n k:=by refine⟨?_,hj⟩;have h5:x*2^k<=1*2^k:=Int.mul_le_mul_of_nonneg_right (by omega) (by omega);omega
  have e:=Acu hb;rw[e]at h;exact h hb (by omega)
end
section
noncomputable def Em(l:List Bi):List Int:=l.map λv=>(Jp (G3 v):Int)
variable {l:List Bi}
theorem Gn:(Em l).length=l.length:=by unfold Em;rw[List.length_map]
theorem Q6{i:Nat}(h:i<l.length):(Em l)[i]'(by rw[Gn];exact h)=(Jp (G3 l[i]):Int):=by unfold Em;rw[List.getElem_map]
noncomputable def Nk(l:List Bi):Int:=Kb (Em l) l.length
variable {H:HY} {X:PX}
theorem Pj{Q:Int×Unit->UU}(hl:l.length<=1000000000000000)(h:0<=Nk l->Nk l<=40*(l.length:Int)->Q (Nk l,()) () H):Wp Y0 D5 Df (l,()) H Q X:=by
 refine Vm _ _ _ _ ?_;unfold Oc;refine V9 _ _ _ _ ?_;unfold Pw;refine⟨λm z=>m=l.length-z.2.1/\z.2.1<=l.length/\z.1=Kb (Em l) z.2.1/\0<=z.1/\z.1<=40*(z.2.1:Int),⟨_,rfl,rfl,Nat.zero_le _,rfl,by show (0:Int)<=0;omega,by show (0:Int)<=40*((0:Nat):Int);omega⟩,?_⟩;rintro m ⟨s,k,_⟩ ⟨hm0,hk0,hs0,h10,h20⟩;have hm:m=l.length-k:=hm0;have hk:k<=l.length:=hk0;have hs:s=Kb (Em l) k:=hs0;have h1:0<=s:=h10;have h2:s<=40*(k:Int):=h20;clear hm0 hk0 hs0 h10 h20;refine λ_=>⟨λhkl _=>?_,λhkl=>?_⟩
 .have hkl:k<l.length:=hkl;have hsp:=Af3 l[k];refine⟨hkl,Y5 (Air hsp.1 hsp.2 λhb hb40 _ _=>⟨Bk.2 ?_,by show k+1<=_;omega,l.length-(k+1),by omega,rfl,rfl,by show k+1<=_;omega,?_,?_,?_⟩)⟩
  .have hb40:Jp (G3 l[k])<=40:=hb40;show _<=s+(Jp (G3 l[k]):Int)/\s+(Jp (G3 l[k]):Int)<=_;omega
  .show s+(Jp (G3 l[k]):Int)=Kb (Em l) (k+1);rw[Mw (by rw[Gn];exact hkl),Q6 hkl,hs]
  .show 0<=s+(Jp (G3 l[k]):Int);omega
  .have hb40:Jp (G3 l[k])<=40:=hb40;show s+(Jp (G3 l[k]):Int)<=40*((k+1:Nat):Int);omega
 .have hkl:¬k<l.length:=hkl;have:k=l.length:=by omega
  subst this;show Q (s,()) () H;rw[hs]at h1 h2 ⊢;exact h h1 h2
theorem Vd{n:Int}{Q:Bool×Unit->UU}(h:Q (decide (-255<=n/\n<=255),()) () H):Wp Y0 Dx C7 (n,()) H Q X:=by
 refine Uk _ _ _ _ ?_;unfold Nj;refine⟨λh1=>?_,λh1=>?_⟩
 .have e:decide (-255<=n/\n<=255)=decide (n<=255):=decide_eq_decide.2 ⟨λh=>h.2,λh=>⟨h1,h⟩⟩;rw[e]at h;exact h
 .have e:decide (-255<=n/\n<=255)=false:=decide_eq_false λh=>h1 h.1;rw[e]at h;exact h
theorem Aiq{Q:Int×Int×Unit->UU}(h:∀i e:Int,(e=0->Aks l)->Q (i,e,()) () H):Wp Y0 Kl He (l,()) H Q X:=by
 refine V7 _ _ _ _ ?_;unfold Pu;have no:∀{i e:Int},e≠0->Q (i,e,()) () H:=λhe=>h _ _ λe=>absurd e he;refine⟨λm z=>m=l.length-z.1/\z.1<=l.length/\(∀i(h:i<l.length),i<z.1->Azt l[i])/\∀k i(hi:i<l.length)(hk:k<i),i<z.1->(l[k]'(by omega)).Name≠l[i].Name,⟨_,rfl,rfl,Nat.zero_le _,λi _ hi=>absurd hi (Nat.not_lt_zero _),λk i _ _ hi=>absurd hi (Nat.not_lt_zero _)⟩,?_⟩;rintro m ⟨i,_⟩ ⟨hm0,hi0,ha0,hb0⟩;have hm:m=l.length-i:=hm0;have hi:i<=l.length:=hi0;have ha:∀j(h:j<l.length),j<i->Azt l[j]:=ha0;have hb:∀k j(hj:j<l.length)(hk:k<j),j<i->(l[k]'(by omega)).Name≠l[j].Name:=hb0;clear hm0 hi0 ha0 hb0;refine λhln=>⟨λhil _=>?_,λhil=>?_⟩
 .have hil:i<l.length:=hil;have i1:i+1<=9223372036854775807:=by omega
  refine⟨hil,Ant λt ht=>⟨λ_=>no (by decide),λhtt=>⟨λm z=>m=i-z.1/\z.1<=i/\∀k(hk:k<l.length),k<z.1->l[k].Name≠l[i].Name,⟨_,rfl,rfl,Nat.zero_le _,λk _ hk=>absurd hk (Nat.not_lt_zero _)⟩,?_⟩⟩⟩;have nm:Avs l[i].Name:=ht.1 (Classical.not_not.1 htt);rintro m2 ⟨k,_⟩ ⟨hm20,hk0,hn0⟩;have hm2:m2=i-k:=hm20;have hk:k<=i:=hk0;have hn:∀k2(hk:k2<l.length),k2<k->l[k2].Name≠l[i].Name:=hn0;clear hm20 hk0 hn0;refine⟨λhki _=>?_,λhki _=>⟨hil,?_⟩⟩
  .have hki:k<i:=hki;refine⟨by show k<l.length;omega,λ_=>⟨hil,λ_=>no (by decide),λhne=>⟨by show k+1<=_;omega,i-(k+1),by omega,rfl,rfl,by show k+1<=_;omega,λk2 hk2 hlt=>?_⟩⟩⟩;have hlt:k2<k+1:=hlt;by_cases e:k2=k
   .subst e;exact hne
   .exact hn k2 hk2 (by omega)
  .have hki:¬k<i:=hki;have go:Azt l[i]->i+1<=9223372036854775807/\∃m2,m2<m/\H=H/\m2=l.length-(i+1)/\i+1<=l.length/\(∀j(h:j<l.length),j<i+1->Azt l[j])/\∀k j(hj:j<l.length)(hk:k<j),j<i+1->(l[k]'(by omega)).Name≠l[j].Name:=λhv=>⟨i1,l.length-(i+1),by omega,rfl,rfl,by omega,λj hj hji=>by
    by_cases e:j=i
    .subst e;exact hv
    .exact ha j hj (by omega),λk2 j hj hkj hji=>by
    by_cases e:j=i
    .subst e;exact hn k2 (by omega) (by omega)
    .exact hb k2 j hj hkj (by omega)⟩
   refine⟨λhbt _=>⟨hil,λ_=>no (by decide),λh1 _=>⟨hil,λ_=>no (by decide),λh2 _=>⟨hil,λhbf=>absurd hbt hbf,λ_=>Akk (go ⟨nm,λ_=>⟨Classical.not_not.1 h1,Classical.not_not.1 h2⟩,λe=>absurd (show l[i].Bool=true from hbt) (by rw[e];simp)⟩)⟩⟩⟩,λhbf _=>⟨hil,λ_ _=>⟨hil,λ_=>⟨hil,λ_=>no (by decide),λh3 _=>⟨hil,Vd ⟨λ_=>no (by decide),λh4 _=>⟨hil,Vd ⟨λ_=>no (by decide),λh5 _=>⟨hil,Y5 ⟨λ_=>no (by decide),λh6=>go ?_⟩⟩⟩⟩⟩⟩⟩⟩,λhbt=>absurd hbf hbt⟩⟩;have hbf:¬l[i].Bool=true:=hbf;have h3:¬l[i].Hi<l[i].Lo:=h3;have h4:=of_decide_eq_true (Classical.not_not.1 h4);have h5:=of_decide_eq_true (Classical.not_not.1 h5);have h6:¬(64:Int)<G3 l[i]:=h6;unfold G3 at h6;rw[if_neg hbf,if_neg h3]at h6;exact⟨nm,λe=>absurd e hbf,λ_=>⟨by omega,h4.1,h5.2,by omega⟩⟩
 .have hil:¬i<l.length:=hil;exact h 0 0 λ_=>⟨λj hj=>ha j hj (by omega),λk j hj hk=>hb k j hj hk (by omega)⟩
theorem Afu{Q:Int×Int×Unit->UU}(hv:Aks l)(hl:l.length<=1000)(h:∀H',(∀c,H c≠none->H' c=H c)->Q (0,0,()) () H'):Wp Y0 Td O6 (l,()) H Q X:=by
 refine Aie _ _ _ _ ?_;unfold Yv;refine λ_=>⟨λm z H'=>m=l.length-z.1/\z.1<=l.length/\∀c,H c≠none->H' c=H c,⟨_,rfl,Nat.zero_le _,λ_ _=>rfl⟩,?_⟩
 rintro m ⟨i,_⟩ H1 ⟨hm0,hi0,f1⟩;have hm:m=l.length-i:=hm0;have hi:i<=l.length:=hi0;clear hm0 hi0;refine⟨λhil _=>?_,λhil=>h H1 f1⟩;have hil:i<l.length:=hil;refine⟨hil,λb hb=>?_⟩;have ok:=hv.ok i hil;have f2:∀c,H c≠none->Ab H1 b (.st Ld l[i]) c=H c:=λc hc=>by have:=f1 c hc;rw[Ad _ _ λe=>hc (by rw[<-this,e];exact hb)];exact this
 have mx:mnL true l[i].Lo [(.i64,l[i].Hi)]=max l[i].Lo l[i].Hi:=by simp [mnL]
 have mn:mnL false l[i].Lo [(.i64,l[i].Hi)]=min l[i].Lo l[i].Hi:=by simp [mnL]
 have rg:l[i].Lo<=l[i].Hi/\-255<=l[i].Lo/\l[i].Hi<=255/\l[i].Hi-l[i].Lo<64:=by
  cases e:l[i].Bool with
  |true=>have:=ok.bo e;omega
  |false=>exact ok.nu e
 have go:∀(x1:Bi),x1=l[i]->(i+1<=9223372036854775807/\∃m2,m2<m/\x1=x1/\m2=l.length-(i+1)/\i+1<=l.length/\∀c,H c≠none->Ab H1 b (.st Ld l[i]) c=H c):=λ_ _=>⟨by omega,l.length-(i+1),by omega,rfl,rfl,by omega,f2⟩
 refine⟨λhm=>?_,λhm=>Aqr ok.nm ⟨λhn=>absurd rfl hn,λ_=>⟨Nat.zero_le _,by show i<=l.length;omega,?_⟩⟩⟩
 .have hm:255<mnL true l[i].Lo [(.i64,l[i].Hi)]:=hm;rw[mx]at hm;omega
 refine Fu _ _ _ _ _ ?_;unfold C9;refine F9 _ _ _ _ _ ?_;unfold Dj;have tl:(List.take (i-0) (List.drop 0 l)).length=i:=by rw[List.drop_zero,List.length_take];omega
 refine λ_=>⟨λm2 z H'=>H'=Ab H1 b (.st Ld l[i])/\∃k:Nat,z.1=(k:Int)/\m2=i-k/\k<=i,⟨_,rfl,0,rfl,rfl,Nat.zero_le _⟩,?_⟩
 rintro m2 ⟨xk,_⟩ H2 ⟨hH,k,hk0,hm2,hk⟩;have hH:H2=Ab H1 b (.st Ld l[i]):=hH;have hxk:xk=(k:Int):=hk0;subst hH hxk;have tk:((k:Int)).toNat=k:=by omega
 refine⟨λhlt _=>?_,λhlt=>?_⟩
 .have hlt:(k:Int)<((List.take (i-0) (List.drop 0 l)).length:Int):=hlt;rw[tl]at hlt;have hki:k<i:=by omega
  refine⟨λ_=>by show (0:Int)<=(k:Int);omega,by show ((k:Int)).toNat<(List.take (i-0) (List.drop 0 l)).length;rw[tl];omega,?_⟩;refine Aeq _ _ _ _ _ ?_;unfold U8;refine⟨b,rfl,l[i],Aj _ _ _,rfl,λhe=>?_,λ_ _=>⟨Bk.2 (by show _<=(k:Int)+1/\(k:Int)+1<=_;omega),i-(k+1),by omega,rfl,k+1,by show (k:Int)+1=((k+1:Nat):Int);omega,rfl,by omega⟩⟩;have he:=of_decide_eq_true he;have e2:((List.take (i-0) (List.drop 0 l))[((k:Int)).toNat]'(by rw[tl];omega))=l[k]'(by omega):=by simp only[tk,Nat.sub_zero,List.drop_zero,List.getElem_take]
  have he:((List.take (i-0) (List.drop 0 l))[((k:Int)).toNat]'(by rw[tl];omega)).Name=l[i].Name:=he;rw[e2]at he;exact absurd he (hv.ne k i hil hki)
 .refine⟨λhe=>absurd he (by decide),λ_=>⟨l[i],Aj _ _ _,λhbt=>⟨λh1=>absurd (ok.bo hbt).1 h1,λ_=>⟨λh2=>absurd (ok.bo hbt).2 h2,λ_=>⟨λhbf=>absurd hbt hbf,λ_=>go _ rfl⟩⟩⟩,λhbf=>⟨λ_=>⟨λh1=>?_,λ_=>⟨λh2=>?_,λ_ _ _=>⟨Bk.2 ?_,λh3=>?_,λ_=>go _ rfl⟩⟩⟩,λhbt=>absurd hbf hbt⟩⟩⟩
  .have h1:l[i].Hi<l[i].Lo:=h1;omega
  .have h2:mnL false l[i].Lo [(.i64,l[i].Hi)] < -255:=h2;rw[mn]at h2;omega
  .show _<=l[i].Hi-l[i].Lo/\l[i].Hi-l[i].Lo<=_;omega
  .have h3:64<=l[i].Hi-l[i].Lo:=h3;omega
end
section
theorem Ayf{n:Int}:∀{m:Nat},n<=2^m->∃k,k<=m/\IsB n k
 |0,h=>⟨0,Nat.le_refl _,h,λj hj=>absurd hj (Nat.not_lt_zero _)⟩
 |m+1,h=>by
  by_cases h1:n<=2^m
  .obtain⟨k,hk,hb⟩:=Ayf h1;exact⟨k,by omega,hb⟩
  .refine⟨m+1,Nat.le_refl _,h,λj hj=>?_⟩;have:(2:Nat)^j<=2^m:=Nat.pow_le_pow_right (by omega) (by omega);have h2:(2:Int)^j<=2^m:=by rw[Aea,Aea];exact Int.ofNat_le.2 this
   omega
theorem Ah5{n:Int}{m:Nat}(h:n<=2^m):Jp n<=m/\IsB n (Jp n):=by obtain⟨k,hk,hb⟩:=Ayf h;rw[Acu hb];exact⟨hk,hb⟩
theorem Azl(v:Bi):Jp (G3 v)<=31:=by
 have:=Af3 v;have h31:(2:Int)^31=2147483648:=by decide
 exact(Ah5 (by omega)).1
theorem Ar1{l:List Bi}:∀{k:Nat},k<=l.length->0<=Kb (Em l) k/\Kb (Em l) k<=31*(k:Int)
 |0,_=>by simp [Kb]
 |k+1,h=>by have h1:=Ar1 (l:=l) (k:=k) (by omega);have h2:=Azl (l[k]'(by omega));rw[Mw (by rw[Gn];omega),Q6 (by omega)];omega
noncomputable def V0(l:List Bi):List Int:=(List.range l.length).map λi=>Kb (Em l) i
variable {l:List Bi}
theorem R1:(V0 l).length=l.length:=by unfold V0;simp
theorem Apl{i:Nat}(h:i<l.length):(V0 l)[i]'(by rw[R1];exact h)=Kb (Em l) i:=by unfold V0;simp
noncomputable def Avb(l:List Bi):Ae:={Ag:=l,Bits:=Em l,At:=V0 l}
theorem Ava{H:HY}{X:PX}{Q:Ae×Int×Unit->UU}(hv:Aks l)(hl:l.length<=1000)(ht:Nk l<=30)(h:∀H',(∀c,H c≠none->H' c=H c)->Q (Avb l,0,()) () H'):Wp Y0 Ahi Abd (l,()) H Q X:=by
 refine Ayw _ _ _ _ ?_;unfold Ao4;refine Afu hv hl λH' f=>⟨λhn=>absurd rfl hn,λ_ _ _ _=>⟨by omega,rfl,by omega,Nat.zero_le _,λ_=>⟨λm z H1=>H1=H'/\m=l.length-z.2.2.1/\z.2.2.1<=l.length/\z.1.1=l/\z.1.2.1=(Em l).take z.2.2.1/\z.1.2.2.1=(V0 l).take z.2.2.1/\z.2.1=Kb (Em l) z.2.2.1,⟨_,rfl,rfl,Nat.zero_le _,?_,rfl,rfl,rfl⟩,?_⟩⟩⟩
 .have e:((l.length:Int)).toNat=l.length:=by omega
  simp [e]
 rintro m ⟨⟨vs,bs,ats,_⟩,a,i,_⟩ H1 ⟨hH0,hm0,hi0,hvs0,hbs0,hat0,ha0⟩;have hH:H1=H':=hH0;have hm:m=l.length-i:=hm0;have hi:i<=l.length:=hi0;have hvs:vs=l:=hvs0;have hbs:bs=(Em l).take i:=hbs0;have hat:ats=(V0 l).take i:=hat0;have ha:a=Kb (Em l) i:=ha0;clear hH0 hm0 hi0 hvs0 hbs0 hat0 ha0;subst hH hvs hbs hat ha;have sb:=Ar1 (l:=vs) hi;refine⟨λhil _=>?_,λhil=>?_⟩
 .have hil:i<vs.length:=hil;have hsp:=Af3 vs[i];refine⟨hil,Afv (An7 hsp.2 λ_ hb31=>?_)⟩;have hb31:Jp (G3 vs[i])<=31:=hb31;have l1:((Em vs).take i).length=i:=by rw[List.length_take,Gn];omega
  have l2:((V0 vs).take i).length=i:=by rw[List.length_take,R1];omega
  have pA:(((Em vs).take i).length+1)*8<=140737488355328:=by rw[l1];omega
  have pB:(((V0 vs).take i).length+1)*8<=140737488355328:=by rw[l2];omega
  have pC:InK .i64 (Kb (Em vs) i)->InK .i64 (Jp (G3 vs[i]):Int)->InK .i64 (Kb (Em vs) i+(Jp (G3 vs[i]):Int))/\i+1<=9223372036854775807/\∃m2,m2<m/\H1=H1/\m2=vs.length-(i+1)/\i+1<=vs.length/\vs=vs/\(Em vs).take i++[(Jp (G3 vs[i]):Int)]=(Em vs).take (i+1)/\(V0 vs).take i++[Kb (Em vs) i]=(V0 vs).take (i+1)/\Kb (Em vs) i+(Jp (G3 vs[i]):Int)=Kb (Em vs) (i+1):=λ_ _=>by
   refine⟨Bk.2 (by omega),by omega,vs.length-(i+1),by omega,rfl,rfl,by omega,rfl,?_,?_,?_⟩
   .rw[List.take_succ_eq_append_getElem (by rw[Gn];exact hil),Q6 hil]
   .rw[List.take_succ_eq_append_getElem (by rw[R1];exact hil),Apl hil]
   .rw[Mw (by rw[Gn];exact hil),Q6 hil]
  repeat' first
   |exact pA
   |exact pB
   |exact pC
   |refine Akk ?_
   |refine⟨?_,?_⟩
 .have hil:¬i<vs.length:=hil;have e:i=vs.length:=by omega
  subst e;have e1:(Em vs).take vs.length=Em vs:=List.take_of_length_le (by rw[Gn];exact Nat.le_refl _);have e2:(V0 vs).take vs.length=V0 vs:=List.take_of_length_le (by rw[R1];exact Nat.le_refl _);refine⟨λhgt=>?_,λ_=>?_⟩
  .have hgt:30<Kb (Em vs) vs.length:=hgt;unfold Nk at ht;omega
  .show Q ({Ag:=vs,Bits:=(Em vs).take vs.length,At:=(V0 vs).take vs.length},0,()) () H1;rw[e1,e2];exact h H1 f
theorem Ao6:Iv (Avb l)=Nk l:=by show Kb (Em l) (Em l).length=Kb (Em l) l.length;rw[Gn]
theorem Ayx(hv:Aks l)(hl:l.length<=64):Aas (Avb l):=by
 have sp:∀i(h:i<l.length),G3 l[i]=hiV l[i]-loV l[i]+1/\loV l[i]<=hiV l[i]/\hiV l[i]-loV l[i]<64/\-255<=loV l[i]/\hiV l[i]<=255:=λi h=>by
  have ok:=hv.ok i h;unfold G3 hiV loV;cases e:l[i].Bool with
  |true=>simp
  |false=>
   have:=ok.nu e;have h1:¬l[i].Hi<l[i].Lo:=by omega
   simp only[Bool.false_eq_true,if_false,h1];omega
 have h6:(2:Int)^6=64:=by decide
 refine {lb:=?_,la:=?_,ln:=hl,b0:=λi h=>?_,at_:=λi h=>?_,fit:=λi h h'=>?_}
 .exact Gn
 .exact R1
 .have h:i<(Em l).length:=h;rw[Gn]at h;show 0<=(Em l)[i]'(by rw[Gn];exact h)/\(Em l)[i]'(by rw[Gn];exact h)<=30;rw[Q6 h];have:=(Ah5 (n:=G3 l[i]) (m:=6) (by have:=sp i h;omega)).1;omega
 .have h:i<(V0 l).length:=h;rw[R1]at h;show (V0 l)[i]'(by rw[R1];exact h)=Kb (Em l) i;exact Apl h
 .have h:i<l.length:=h;have s:=sp i h;show loV l[i]<=hiV l[i]/\hiV l[i]-loV l[i]<2^((Em l)[i]'(by rw[Gn];exact h)).toNat/\-1152921504606846976<=loV l[i]/\hiV l[i]<=1152921504606846976;rw[Q6 h];have:=(Ah5 (n:=G3 l[i]) (m:=6) (by omega)).2.1;rw[Int.toNat_natCast];omega
end
section
theorem A5a{n:Int}(h0:0<=n)(h1:n<=64):mnL false (mnL true n [(.i64,0)]) [(.i64,64)]=n:=by show min (max n 0) 64=n;omega
variable {H:HY} {X:PX}
theorem Y8{n:Int}{Q:List Int×Unit->UU}(h0:0<=n)(h1:n<=64)(h:∀l:List Int,l.length=n.toNat->(∀k(_:k<l.length),l[k]=(k:Int))->Q (l,()) () H):Wp Y0 Q2 Np (n,()) H Q X:=by
 refine Alp _ _ _ _ ?_;unfold Abk;have e:=A5a h0 h1;simp only[e,List.length_replicate];refine λ_ _=>⟨h0,trivial,by omega,λ_=>⟨λm z=>m=n.toNat-z.2.1/\z.2.1<=n.toNat/\z.1.length=n.toNat/\∀k(_:k<z.1.length),k<z.2.1->z.1[k]=(k:Int),⟨_,trivial,rfl,Nat.zero_le _,by simp,λk _ hk=>absurd hk (Nat.not_lt_zero k)⟩,?_⟩⟩
 rintro m ⟨l,k,_⟩ ⟨hm0,hk0,hl0,hv0⟩;have hm:m=n.toNat-k:=hm0;have hk:k<=n.toNat:=hk0;have hl:l.length=n.toNat:=hl0;have hv:∀j(_:j<l.length),j<k->l[j]=(j:Int):=hv0;clear hm0 hk0 hl0 hv0;refine⟨λhkl _=>?_,λhkl=>?_⟩
 .have hkl':k<n.toNat:=hkl;refine⟨by show k<l.length;omega,by show k<l.length;omega,by show k+1<=_;omega,n.toNat-(k+1),by omega,trivial,rfl,by show k+1<=_;omega,by simpa using hl,λj hj hjk=>?_⟩;have hj':j<l.length:=by simpa using hj
  show (l.set k (k:Int))[j]=_;by_cases e:j=k
  .subst e;simp
  .rw[List.getElem_set_ne (Ne.symm e)];have hjk:j<k+1:=hjk;exact hv j hj' (by omega)
 .have hkl':¬k<n.toNat:=hkl;exact h l hl λj hj=>hv j hj (by omega)
variable {room:Int} {Q:Option Nat×Int×Unit->UU}
theorem An0(h0:1<=room)(h1:room<=1048576)(h:∀b x,H b=none->Iw x->x.room=room->x.at_.length=1->(∀i,pNd x i=none)->Q (some b,0,()) () (Ab H b (.st Ek x))):Wp Y0 Aag Uq (room,()) H Q X:=by
 refine Aqf _ _ _ _ ?_;unfold Age;have fin:∀b,H b=none->Q (some b,0,()) () (Ab H b (.st Ek {room:=room,at_:=List.replicate (Int.toNat (1:Int)) {ID:=(0:Int),Var:=(0:Int),Lo:=(0:Int),Hi:=(0:Int),Refs:=(0:Int):Am},taken:=List.replicate (Int.toNat (1:Int)) false,free:=[],many:=(0:Int):Av})):=λb hb=>by
  have tk:∀i,pTk {room:=room,at_:=List.replicate (Int.toNat (1:Int)) {ID:=(0:Int),Var:=(0:Int),Lo:=(0:Int),Hi:=(0:Int),Refs:=(0:Int):Am},taken:=List.replicate (Int.toNat (1:Int)) false,free:=[],many:=(0:Int):Av} i=false:=λi=>by
   unfold pTk;show (decide (0<=i)&&(([false]:List Bool)[i.toNat]?).getD false)=false;cases hi:i.toNat with
   |zero=>simp
   |succ j=>simp
  have nd:∀i,pNd {room:=room,at_:=List.replicate (Int.toNat (1:Int)) {ID:=(0:Int),Var:=(0:Int),Lo:=(0:Int),Hi:=(0:Int),Refs:=(0:Int):Am},taken:=List.replicate (Int.toNat (1:Int)) false,free:=[],many:=(0:Int):Av} i=none:=λi=>by unfold pNd;rw[tk i];rfl
  refine h b _ hb ⟨rfl,by show 0<1;decide,⟨h0,h1⟩,by show ((1:Nat):Int)<=room+1;omega,rfl,λi hi=>absurd hi List.not_mem_nil,List.nodup_nil,rfl,λi hi ht=>?_,λi n hn=>by rw[nd]at hn;cases hn⟩ rfl rfl nd;have ht:([false]:List Bool)[i]?=some false:=ht;rw[List.getElem?_eq_none (by simp;omega)]at ht;cases ht
 refine⟨λhl=>by omega,λ_=>⟨λhl=>by omega,λ_=>⟨⟨by decide,rfl,by decide,by decide,rfl,by decide,fin⟩,by decide,rfl,by decide,by decide,rfl,by decide,fin⟩⟩⟩
theorem Alw{vars:Int}(hv:0<=vars/\vars<=64)(h0:1<=room)(h1:room<=1048576)(h:∀b S H',Dc H' b S->SI S->S.n=vars->S.po.room=room->(∀i,tbl S.po i=none)->(∀v,0<=v->v<vars->S.lv.vars[v.toNat]?=some v)->(∀i,rfA S.po i=0)->(∀c,H c≠none->H' c=H c)->Q (some b,0,()) () H'):Wp Y0 W7 Sb (vars,room,()) H Q X:=by
 refine An9 _ _ _ _ _ ?_;unfold Aed;refine⟨λhl=>by omega,λ_=>⟨λhl=>by omega,λ_=>An0 h0 h1 λbp x hbp hP hroom hlen hnd=>⟨λh=>absurd rfl h,λ_=>Y8 hv.1 hv.2 λlv hlv hlvk=>Y8 hv.1 hv.2 λll hll hllk=>?_⟩⟩⟩;intro b3 hb3 b4 hb4;have n3:b3≠bp:=λe=>by rw[e,Aj]at hb3;cases hb3
 have n4:b4≠b3:=λe=>by rw[e,Aj]at hb4;cases hb4
 have n5:b4≠bp:=λe=>by rw[e,Ad _ _ (Ne.symm n3),Aj]at hb4;cases hb4
 have z3:H b3=none:=by rw[Ad _ _ n3]at hb3;exact hb3
 have z4:H b4=none:=by rw[Ad _ _ n4,Ad _ _ n5]at hb4;exact hb4
 let st (tb:List Nat):Aa:={levels:=some b3,Bs:=some bp,tables:=tb.map some,counts:=[],dead:=0}
 refine⟨λn z H'=>n=vars.toNat-z.1/\z.1<=vars.toNat/\∃tb:List Nat,tb.length=z.1/\H' b4=some (.st A8 (st tb))/\H' b3=some (.st Eb ⟨lv,ll⟩)/\H' bp=some (.st Ek x)/\tb.Nodup/\(∀j(h:j<tb.length),H' tb[j]=some (.st Ct ⟨[]⟩))/\∀c,H c≠none->H' c=H c,⟨_,rfl,Nat.zero_le _,[],rfl,Aj _ _ _,?_,?_,List.nodup_nil,λj hj=>absurd hj (Nat.not_lt_zero j),λc hc=>?_⟩,?_⟩
 .rw[Ad _ _ (Ne.symm n4),Aj]
 .rw[Ad _ _ (Ne.symm n5),Ad _ _ (Ne.symm n3),Aj]
 .rw[Ad _ _ (λe=>hc (by rw[e];exact z4)),Ad _ _ (λe=>hc (by rw[e];exact z3)),Ad _ _ (λe=>hc (by rw[e];exact hbp))]
 rintro n ⟨k,_⟩ H' ⟨hn0,hk0,tb,t1,t2,t3,t4,t5,t6,t7⟩;have hn:n=vars.toNat-k:=hn0;have hk:k<=vars.toNat:=hk0;have t1:tb.length=k:=t1;clear hn0 hk0;refine⟨λhkl=>?_,λhkl=>?_⟩
 .have hkl':(k:Int)<vars:=hkl;have stp:∀(b:Nat)(H2:HY),H' b=none->H2 b4=some (.st A8 (st (tb++[b])))->H2 b=some (.st Ct ⟨[]⟩)->(∀c,c≠b->c≠b4->H2 c=H' c)->∃m,m<n/\(m=vars.toNat-(k+1)/\k+1<=vars.toNat/\∃tb:List Nat,tb.length=k+1/\H2 b4=some (.st A8 (st tb))/\H2 b3=some (.st Eb ⟨lv,ll⟩)/\H2 bp=some (.st Ek x)/\tb.Nodup/\(∀j(h:j<tb.length),H2 tb[j]=some (.st Ct ⟨[]⟩))/\∀c,H c≠none->H2 c=H c):=λb H2 hb e1 e2 e3=>by
   have ne:∀{c:Nat}{o:Ob Y0},H' c=some o->c≠b:=λhc e=>by rw[e,hb]at hc;cases hc
   refine⟨vars.toNat-(k+1),by omega,rfl,by omega,tb++[b],by simp [t1],e1,by rw[e3 _ (ne t3) (Ne.symm n4)];exact t3,by rw[e3 _ (ne t4) (Ne.symm n5)];exact t4,?_,λj hj=>?_,λc hc=>?_⟩
   .rw[List.nodup_append];refine⟨t5,by simp,λc hc d hd e=>?_⟩;rw[List.mem_singleton]at hd;subst hd;subst e;obtain⟨j,hj,e⟩:=List.mem_iff_getElem.1 hc;exact ne (t6 j hj) e
   .by_cases hjk:j<tb.length
    .rw[List.getElem_append_left hjk,e3 _ (ne (t6 j hjk)) (By (t6 j hjk) t2 (by decide))];exact t6 j hjk
    .have:j=tb.length:=by simp at hj;omega
     subst this;simpa using e2
   .have h2:=t7 c hc;rw[e3 c (λe=>hc (by rw[<-h2,e];exact hb)) (λe=>hc (by rw[e];exact z4))];exact h2
  have lenb:(tb.map some).length+1<=64:=by simp;omega
  have s0:∀b,st (tb++[b])={levels:=some b3,Bs:=some bp,tables:=tb.map some++[some b],counts:=[],dead:=0}:=λb=>by show ({levels:=_,Bs:=_,tables:=(tb++[b]).map some,counts:=_,dead:=_}:Aa)=_;rw[List.map_append];rfl
  refine⟨⟨st tb,t2,λb hb hb2=>?_⟩,λb hb=>?_⟩
  .have nb:b≠b4:=λe=>by rw[e,Aj]at hb2;cases hb2
   have hb':H' b=none:=by unfold Dp at hb;rw[if_neg nb]at hb;exact hb
   refine⟨by show ((tb.map some).length+1)*8<=_;omega,by show k+1<=_;omega,?_⟩;refine stp b _ hb' (by rw[s0];exact Aj _ _ _) ?_ λc c1 c2=>?_
   .rw[Ad _ _ nb];unfold Kk;rw[if_neg nb,Aj]
   .rw[Ad _ _ c2];unfold Kk;rw[if_neg c2,Ad _ _ c1];unfold Dp;rw[if_neg c2]
  .have nb:b≠b4:=λe=>by rw[e,t2]at hb;cases hb
   have key:∃(x_1:Aa),Ab H' b (Ob.st Ct {ids:=[]:Ay}) b4=some (Ob.st A8 x_1)/\(x_1.tables.length+[some b].length)*8<=140737488355328/\k+1<=9223372036854775807/\∃m,m<n/\(m=vars.toNat-(k+1)/\k+1<=vars.toNat/\∃tb:List Nat,tb.length=k+1/\Ab (Ab H' b (Ob.st Ct {ids:=[]:Ay})) b4 (Ob.st A8 {x_1 with tables:=x_1.tables++[some b]}) b4=some (.st A8 (st tb))/\Ab (Ab H' b (Ob.st Ct {ids:=[]:Ay})) b4 (Ob.st A8 {x_1 with tables:=x_1.tables++[some b]}) b3=some (.st Eb ⟨lv,ll⟩)/\Ab (Ab H' b (Ob.st Ct {ids:=[]:Ay})) b4 (Ob.st A8 {x_1 with tables:=x_1.tables++[some b]}) bp=some (.st Ek x)/\tb.Nodup/\(∀j(h:j<tb.length),Ab (Ab H' b (Ob.st Ct {ids:=[]:Ay})) b4 (Ob.st A8 {x_1 with tables:=x_1.tables++[some b]}) tb[j]=some (.st Ct ⟨[]⟩))/\∀c,H c≠none->Ab (Ab H' b (Ob.st Ct {ids:=[]:Ay})) b4 (Ob.st A8 {x_1 with tables:=x_1.tables++[some b]}) c=H c):=by
    refine⟨st tb,by rw[Ad _ _ (Ne.symm nb)];exact t2,by show ((tb.map some).length+1)*8<=_;omega,by show k+1<=_;omega,?_⟩;refine stp b _ hb (by rw[s0];exact Aj _ _ _) ?_ λc c1 c2=>?_
    .rw[Ad _ _ nb,Aj]
    .rw[Ad _ _ c2,Ad _ _ c1]
   exact⟨key,key⟩
 .have hkl':¬(k:Int)<vars:=hkl;have hke:k=vars.toNat:=by omega
  let S:Sto:={bl:=b3,bp:=bp,tb:=tb,lv:=⟨lv,ll⟩,po:=x,ta:=λ_=>⟨[]⟩,cn:=[],dead:=0}
  have hSn:S.n=vars:=by show (tb.length:Int)=vars;omega
  have hno:∀i,tbl x i=none:=λi=>by unfold tbl;rw[hnd];rfl
  have hrf:∀i,rfA x i=0:=λi=>Af6 (hno i);have hlvA:∀v,0<=v->v<vars->lvA ⟨lv,ll⟩ v=v:=λv h0 h1=>by
   unfold lvA;have hvl:v.toNat<ll.length:=by rw[hll];omega
   rw[if_pos h0];show (ll[v.toNat]?).getD (-1)=v;rw[List.getElem?_eq_getElem hvl,hllk _ hvl];show ((v.toNat:Nat):Int)=v;omega
  have no:∀{i d},tbl S.po i=some d->False:=λ{i d}hd=>by rw[show tbl S.po i=none from hno i]at hd;cases hd
  have hlvS:∀v,0<=v->v<vars->S.lv.vars[v.toNat]?=some v:=λv h0 h1=>by
   have hvl:v.toNat<lv.length:=by rw[hlv];omega
   show lv[v.toNat]?=some v;rw[List.getElem?_eq_getElem hvl,hlvk _ hvl];congr 1;omega
  have hsi:SI S:=by
   refine⟨⟨hP,⟨λhd=>(no hd).elim,λhd=>(no hd).elim,λhd=>(no hd).elim⟩,λi d hd=>(no hd).elim,?_⟩,⟨⟨by rw[hSn];exact hv.2,λv h0 h1=>?_,λv w a1 a2 a3 a4 e=>?_⟩,λhd=>(no hd).elim,λhd=>(no hd).elim,λhd=>(no hd).elim,λhd=>(no hd).elim,λhd=>(no hd).elim,λhd=>(no hd).elim⟩,by show lv.length=tb.length;omega,by show ll.length=tb.length;omega,λl v hl=>?_,λv _=>List.nodup_nil,λv _ lo hi i=>⟨λh=>(by cases h),λh=>(no h).elim⟩,λi=>by rw[show rfA S.po i=0 from hrf i];exact Int.le_refl _⟩
   .show (0:Int)=B.sm x.at_.length (B.zr (tbl x) (cnA []));rw[B.Il (g:=λ_=>0) λk _ _=>by unfold B.zr;rw[hno],B.Afd]
   .rw[hSn]at h1;show 0<=lvA ⟨lv,ll⟩ v/\lvA ⟨lv,ll⟩ v<S.n;rw[hlvA v h0 h1,hSn];exact⟨h0,h1⟩
   .rw[hSn]at a2 a4;have e:lvA ⟨lv,ll⟩ v=lvA ⟨lv,ll⟩ w:=e;rw[hlvA v a1 a2,hlvA w a3 a4]at e;exact e
   .have hl:lv[l]?=some v:=hl;obtain⟨hll',e⟩:=List.getElem?_eq_some_iff.1 hl;rw[hlvk l hll']at e;have hb:(l:Int)<vars:=by rw[hlv]at hll';omega
    refine⟨by omega,by rw[hSn];omega,?_⟩;show lvA ⟨lv,ll⟩ v=l;rw[<-e];exact hlvA _ (by omega) hb
  exact h b4 S H' ⟨t2,t3,t4,t5,t6⟩ hsi hSn hroom hno hlvS hrf t7
theorem Avc{vars:Int}(hv:0<=vars/\vars<=64)(h0:1<=room)(h1:room<=1048576)(h:∀b M H',MnH H' b M->MI M->MV M->M.ws=[]->M.S.n=vars->M.S.po.room=room->(∀i,M.T i=none)->(∀v,0<=v->v<vars->M.S.lv.vars[v.toNat]?=some v)->M.nx=2->M.hs.length=2->(∀g,M.Ba g=if g=0 then some (λ_=>false) else if g=1 then some (λ_=>true) else none)->(∀c,H c≠none->H' c=H c)->H b=none->Q (some b,0,()) () H'):Wp Y0 W9 Tx (vars,room,()) H Q X:=by
 refine Ay5 _ _ _ _ _ ?_;unfold Apa;refine Alw hv h0 h1 λbs S H1 s1 i1 hn hr hno hvs hrf old=>⟨λh=>absurd rfl h,λ_=>Aqo _ _ _ _ ?_⟩
 unfold Agu;intro bm hbm b hb;have nbm:b≠bm:=λe=>by rw[e,Aj]at hb;cases hb
 have hb1:H1 b=none:=by rw[Ad _ _ nbm]at hb;exact hb
 let me:Ce:={size:=mnL false (mnL true 4096 [(.i64,1)]) [(.i64,65536)],entries:=none,asked:=0,found:=0}
 let M:Mn:={sb:=bs,S:=S,mb:=bm,me:=me,hs:=[(0,1),(1,0)],nx:=2,ws:=[],ca:=0}
 have new:∀c,H1 c≠none->Ab (Ab H1 bm (.st Da me)) b (.st Eo M.ob) c=H1 c:=λc hc=>by rw[Ad _ _ (λe=>hc (by rw[e];exact hb1)),Ad _ _ (λe=>hc (by rw[e];exact hbm))]
 have hme:MeI me:=⟨by show (1:Int)<=min (max 4096 1) 65536;decide,by show min (max (4096:Int) 1) 65536<=65536;decide,λxs hx=>by cases hx⟩
 have hg:∀g,Ac M.hs g=if g=0 then some 1 else if g=1 then some 0 else none:=λg=>by
  show (if (0:Int)=g then some (1:Int) else if (1:Int)=g then some 0 else none)=_;by_cases e0:g=0
  .subst e0;rfl
  .rw[if_neg (Ne.symm e0),if_neg e0];by_cases e1:g=1
   .subst e1;rfl
   .rw[if_neg (Ne.symm e1),if_neg e1]
 refine h b M _ ⟨Aj _ _ _,s1.old new,by rw[Ad _ _ (Ne.symm nbm),Aj]⟩ ⟨i1,?_,λg e he=>?_,rfl,rfl,(by show (2:Int)<=2;decide),λi hi=>?_,(by show ((2:Nat):Int)<=2;decide)⟩ (MV.empty hme λe⟨xs,hx,_⟩=>by cases hx) rfl hn hr hno hvs rfl rfl (λg=>?_) (λc hc=>?_) ?_
 .show ([0,1]:List Int).Nodup;decide
 .rw[hg]at he;split at he
  .rename_i e0;cases he;exact⟨B.ok_one,by omega,by show g<2;omega⟩
  .split at he
   .cases he;exact⟨B.Aff,by omega,by show g<2;omega⟩
   .cases he
 .rw[show rfA M.S.po i=0 from hrf i];show 0=B.dl 1 i+(B.dl 0 i+0);rw[B.Qw (by omega),B.Qw (by omega)];rfl
 .show (Ac M.hs g).map _=_;rw[hg];split
  .show some (B.den M.T 1)=_;rw[B.Jo]
  .split
   .show some (B.den M.T 0)=_;rw[B.Pq]
   .rfl
 .have:=old c hc;exact(new c (by rw[this];exact hc)).trans this
 .cases e:H b with
  |none=>rfl
  |some o=>
   have:=old b (by rw[e];simp);rw[hb1,e]at this;cases this
end
section
structure A69(a:B0):Prop where
 v:Aks a.Ag
 n:a.Ag.length<=8
 t:0<=Nk a.Ag/\Nk a.Ag<=4
 p:a.Hx.length<=6
 e:Aty (2*Nk a.Ag) a.Hx
 o:a.Order=[]∨Akt a.Order (2*Nk a.Ag).toNat
variable {H:HY} {X:PX} {Q:Bool×Unit->UU}
theorem Aev{l:List Int}{n:Int}(h0:0<=n)(hn:n<=1000)(h:∀t:Bool,(t=true->Akt l n.toNat)->Q (t,()) () H):Wp Y0 G1 E5 (l,n,()) H Q X:=by obtain⟨m,rfl⟩:=Int.eq_ofNat_of_zero_le h0;exact Aga (by omega) h
theorem Azy{a:B0}(hl:a.Ag.length<=1000000000000000)(h:∀t:Bool,(t=true->A69 a)->Q (t,()) () H):Wp Y0 J3 G0 (a,()) H Q X:=by
 refine Vs _ _ _ _ ?_;unfold Oj;have no:Q (false,()) () H:=h false λe=>absurd e (by decide);refine Aiq λi e hv=>Pj hl λh0 h1=>⟨λ_=>no,λhe _=>⟨λ_=>no,λh8=>⟨λ_=>no,λh4 _=>⟨λ_=>no,λh6 _=>?_⟩⟩⟩⟩
 have hv:=hv (Classical.not_not.1 he);have h8:¬8<a.Ag.length:=h8;have h4:¬4<Nk a.Ag:=h4;have h6:¬6<a.Hx.length:=h6;have ik:InK .i64 (2*Nk a.Ag):=Bk.2 (by omega);have fin:(a.Order=[]∨Akt a.Order (2*Nk a.Ag).toNat)->Aty (2*Nk a.Ag) a.Hx->Q (true,()) () H:=λho hp=>h true λ_=>⟨hv,by omega,⟨h0,by omega⟩,by omega,hp,ho⟩
 refine⟨λ_ _=>⟨ik,?_⟩,λhz _=>⟨ik,Y6 (by omega) λe hp=>⟨λ_=>no,λhe=>⟨λm z=>m=a.Hx.length-z.1/\z.1<=a.Hx.length,⟨_,rfl,rfl,Nat.zero_le _⟩,?_⟩⟩⟩⟩
 .refine Aev (by omega) (by omega) λt ht=>⟨λ_=>no,λhtt _=>⟨ik,Y6 (by omega) λe hp=>⟨λ_=>no,λhe=>⟨λm z=>m=a.Hx.length-z.1/\z.1<=a.Hx.length,⟨_,rfl,rfl,Nat.zero_le _⟩,?_⟩⟩⟩⟩
  have hp:=hp (Classical.not_not.1 he);rintro m ⟨k,_⟩ ⟨hm0,hk0⟩;have hm:m=a.Hx.length-k:=hm0;have hk:k<=a.Hx.length:=hk0;refine λ_=>⟨λhkl _=>⟨hkl,λ_=>no,λ_=>⟨by show k+1<=_;omega,a.Hx.length-(k+1),by have:k<a.Hx.length:=hkl;omega,rfl,rfl,hkl⟩⟩,λ_=>fin (.inr (ht (Classical.not_not.1 htt))) hp⟩
 .have hp:=hp (Classical.not_not.1 he);rintro m ⟨k,_⟩ ⟨hm0,hk0⟩;have hm:m=a.Hx.length-k:=hm0;have hk:k<=a.Hx.length:=hk0;have hz:¬0<a.Order.length:=hz;refine λ_=>⟨λhkl _=>⟨hkl,λ_=>no,λ_=>⟨by show k+1<=_;omega,a.Hx.length-(k+1),by have:k<a.Hx.length:=hkl;omega,rfl,rfl,hkl⟩⟩,λ_=>fin (.inl (List.length_eq_zero_iff.1 (by omega))) hp⟩
theorem Ayt:∀(n:Nat)(t:A6){most:Int}{H:HY}{X:PX}{Q:Int×Unit->UU},SizeOf.sizeOf t<n->-1<=most->most<=30->(∀r:Int,-1<=r->r<=30->Q (r,()) () H)->Wp Y0 Ih F4 (t,most,()) H Q X
 |0,_,_,_,_,_,hs,_,_,_=>absurd hs (Nat.not_lt_zero _)
 |n+1,t,most,H,X,Q,hs,h0,h1,h=>by
  refine Yf _ _ _ _ _ ?_;unfold Ql;refine⟨λm z=>m=t.Kids.length-z.2.1/\z.2.1<=t.Kids.length/\-1<=z.1/\z.1<=30,⟨_,rfl,rfl,Nat.zero_le _,h0,h1⟩,?_⟩;rintro m ⟨x,k,_⟩ ⟨hm0,hk0,hx00,hx10⟩;have hm:m=t.Kids.length-k:=hm0;have hk:k<=t.Kids.length:=hk0;have hx0:-1<=x:=hx00;have hx1:x<=30:=hx10;refine λ_=>⟨λhkl=>⟨λhx _=>?_,λ_=>h x hx0 hx1⟩,λ_=>h x hx0 hx1⟩
  have hkl:k<t.Kids.length:=hkl;have hx:0<=x:=hx;have hsz:SizeOf.sizeOf t.Kids[k]<n:=by
   have h2:=List.sizeOf_lt_of_mem (List.getElem_mem hkl);have h3:SizeOf.sizeOf t.Kids<SizeOf.sizeOf t:=by cases t;simp;omega
   omega
  refine⟨hkl,λ_=>⟨Bk.2 (by show _<=x-1/\x-1<=_;omega),Ayt n _ hsz (by show -1<=x-1;omega) (by show x-1<=30;omega) λr r0 r1=>⟨by show k+1<=_;omega,t.Kids.length-(k+1),by omega,rfl,rfl,by show k+1<=_;omega,r0,r1⟩⟩⟩
structure A8z(M:Mn)(n:Int):Prop where
 n:M.S.n=n
 nx:M.nx=2
 ln:M.hs.length=2
theorem Atv{vars room:Int}{Q:Option Nat×Int×Unit->UU}(hv:0<=vars/\vars<=64)(h0:1<=room)(h1:room<=1048576)(h:∀b M H',ArS b M H' M H'->M.ws=[]->M.S.po.room=room->A8z M vars->(∀p∈M.hs,p.2/2=0)->(∀c,H c≠none->H' c=H c)->H b=none->Q (some b,0,()) () H'):Wp Y0 W9 Tx (vars,room,()) H Q X:=by
 refine Avc hv h0 h1 λb M H' mn mi mv ws n rm t _ nx ln _ f hb=>h b M H' ⟨mn,mi,mv,t,.refl,rfl,.refl⟩ ws rm ⟨n,nx,ln⟩ (λp hp=>?_) f hb;have ok:=(mi.ok p.1 p.2 (Lz mi.nd hp)).1;rcases ok.2 with e|⟨d,e⟩
 .exact e
 .rw[show tbl M.S.po (p.2/2)=none from t _]at e;cases e
theorem Apt{a:B0}{Q:Option Nat×Ae×Bool×Unit->UU}(s:A69 a)(h:∀b M H',MnH H' b M->MI M->MV M->M.ws=a.Hx->M.S.po.room=1048576->A8z M (2*Nk a.Ag)->Q (some b,Avb a.Ag,true,()) () H'):Wp Y0 G2 E6 (a,()) H Q X:=by
 refine Vt _ _ _ _ ?_;unfold Ol;have st:=s.t;have sn:=s.n;refine Ava s.v (by omega) (by omega) λH1 f1=>Pj (by omega) λ_ _ _=>⟨Bk.2 (by show _<=2*Nk a.Ag/\2*Nk a.Ag<=_;omega),Atv (by omega) (by decide) (by decide) λb M H2 ar ws rm nm hc f2 hb=>⟨λhn=>absurd hn (by simp),λ_=>⟨λhn=>absurd rfl hn,λ_=>⟨λhn=>absurd rfl hn,λ_=>?_⟩⟩⟩⟩
 have nmn:M.S.n=2*Nk a.Ag:=nm.n;refine Arb ar hc (by rw[nm.nx];decide) (by rw[nmn];exact s.o) λM3 H3 s3=>⟨λhn=>absurd rfl hn,λ_=>Akk ?_⟩
 have n3:M3.S.n=2*Nk a.Ag:=s3.kp.n.trans nmn;refine Aoh s3.mn s3.mi s.p (by rw[s3.ws,ws];decide) (by rw[n3];exact s.e) λM4 e4=>?_;have mi4:MI M4:=by rw[e4];exact⟨s3.mi.si,s3.mi.nd,s3.mi.ok,s3.mi.k0,s3.mi.k1,s3.mi.nx,s3.mi.rf,s3.mi.ln⟩
 have mv4:MV M4:=by rw[e4];exact⟨s3.mv.me,λe he hf hk=>let q:=s3.mv.en e he hf hk;⟨q.of,q.og,q.oh,q.or,q.den,q.lev⟩⟩
 have hsb:H3 b=some (.st Eo M3.ob):=s3.mn.ob;have nst:∀{c m:Nat}{x:Y0.O m},H3 c=some (.st m x)->m≠Eo->c≠b:=λhc hm=>By hc hsb hm;have mn4:MnH (Ab H3 b (.st Eo M4.ob)) b M4:=by
  have h4:MnH (Ab H3 b (.st Eo M4.ob)) b {M3 with ws:=M3.ws++a.Hx,ca:=M4.ca}:=by
   refine⟨?_,s3.mn.st.other hsb (by decide) (by decide) (by decide) (by decide),?_⟩
   .rw[Aj];congr 2;rw[e4]
   .rw[Ad _ _ (nst s3.mn.me (by decide))];exact s3.mn.me
  rw[<-e4]at h4;exact h4
 refine h b M4 _ mn4 mi4 mv4 ?_ ?_ ⟨?_,?_,?_⟩
 .rw[e4];show M3.ws++a.Hx=a.Hx;rw[s3.ws,ws];rfl
 .rw[e4];exact s3.kp.room.trans rm
 .rw[e4];exact n3
 .rw[e4];exact s3.kp.nx.trans nm.nx
 .rw[e4];show M3.hs.length=2;rw[s3.kp.hs];exact nm.ln
theorem Alg{v:Nat}{Q:Int×Unit->UU}(hv:v<=30)(h:Q (2^v,()) () H):Wp Y0 Lq Ia ((v:Int),()) H Q X:=by
 refine Ye _ _ _ _ ?_;unfold Qk;refine⟨λm z=>m=v-z.2.1/\z.2.1<=v/\z.1=2^z.2.1,⟨_,rfl,rfl,Nat.zero_le _,rfl⟩,?_⟩;rintro m ⟨x,k,_⟩ ⟨hm0,hk0,hx0⟩;have hm:m=v-k:=hm0;have hk:k<=v:=hk0;have hx:x=2^k:=hx0;have hb:(2:Int)^k<=1073741824/\0<=(2:Int)^k:=by have:(2:Nat)^k<=2^30:=Nat.pow_le_pow_right (by omega) (by omega);rw[Aea];exact⟨by show ((2^k:Nat):Int)<=((1073741824:Nat):Int);exact Int.ofNat_le.2 this,Int.natCast_nonneg _⟩
 refine⟨λhlt _=>?_,λhlt=>?_⟩
 .have hlt:(k:Int)<(v:Int):=hlt;refine⟨Bk.2 (by show _<=2*x/\2*x<=_;rw[hx];omega),by show k+1<=_;omega,v-(k+1),by omega,rfl,rfl,by show k+1<=v;omega,?_⟩;show 2*x=2^(k+1);rw[hx,Int.pow_succ,Int.mul_comm]
 .have hlt:¬(k:Int)<(v:Int):=hlt;have:k=v:=by omega
  subst this;show Q (x,()) () H;rw[hx];exact h
theorem Af9{i v:Nat}(hi:i<=1000000)(hv:v<=30)(h:Q (decide (i/2^v%2=1),()) () H):Wp Y0 J2 Gz ((i:Int),(v:Int),()) H Q X:=by
 refine Vp _ _ _ _ _ ?_;unfold Og;have hpos:0<2^v:=Nat.pow_pos (by omega);have e1:((i:Int)).tdiv (2^v)=((i/2^v:Nat):Int):=by rw[Aea];exact(Int.ofNat_tdiv i (2^v)).symm
 have hq:i/2^v<=i:=Nat.div_le_self _ _;have e2:(((i/2^v:Nat):Int)).tmod 2=((i/2^v%2:Nat):Int):=(Int.ofNat_tmod (i/2^v) 2).symm;refine Alg hv λ_ _=>⟨?_,?_,λ_=>⟨by decide,?_,?_⟩⟩
 .show ¬(2:Int)^v=0;rw[Aea];omega
 .show InK .i64 (((i:Int)).tdiv (2^v));rw[e1];clear e1 e2;generalize i/2^v=q at hq ⊢;exact Bk.2 (by omega)
 .show InK .i64 ((((i:Int)).tdiv (2^v)).tmod 2);rw[e1,e2];have hq2:i/2^v%2<2:=Nat.mod_lt _ (by omega);clear e1 e2;generalize i/2^v%2=q at hq2 ⊢;exact Bk.2 (by omega)
 .show Q (decide ((((i:Int)).tdiv (2^v)).tmod 2=1),()) () H;have:decide ((((i:Int)).tdiv (2^v)).tmod 2=1)=decide (i/2^v%2=1):=by rw[e1,e2];exact decide_eq_decide.2 (by omega)
  rw[this];exact h
def asN(n k:Nat):B.As:=λv=>((List.range n).map λ(u:Nat)=>decide (k/2^u%2=1)).getD v.toNat false
variable {b:Nat} {M:Mn}
theorem Azp{g:Int}{k:Nat}{F:B.Fn}(hM:MnH H b M)(hI:MI M)(hg:M.Ba g=some F)(h8:M.S.n<=8)(hk:k<=1000000)(h:Q (F (asN M.S.n.toNat k),()) () H):Wp Y0 Gt E8 (some b,g,(k:Int),()) H Q X:=by
 refine Zu _ _ _ _ _ _ ?_;unfold Ra;have hn:=@Sto.P4 M.S;refine⟨λm z H'=>H'=H/\m=M.S.n.toNat-z.2.1/\z.2.1<=M.S.n.toNat/\z.1=(List.range z.2.1).map λ(u:Nat)=>decide (k/2^u%2=1),⟨_,rfl,rfl,Nat.zero_le _,rfl⟩,?_⟩;rintro m ⟨l,v,_⟩ H' ⟨rfl,hm0,hv0,hl0⟩;have hm:m=M.S.n.toNat-v:=hm0;have hv:v<=M.S.n.toNat:=hv0;have hl:l=(List.range v).map λ(u:Nat)=>decide (k/2^u%2=1):=hl0;clear hm0 hv0 hl0;have hll:l.length=v:=by rw[hl];simp
 refine P5 hM hI ⟨λhlt=>?_,λhlt=>?_⟩
 .have hlt:(v:Int)<M.S.n:=hlt;refine Af9 hk (by omega) ⟨by show (l.length+1)*1<=_;omega,by show v+1<=_;omega,M.S.n.toNat-(v+1),by omega,rfl,rfl,by show v+1<=_;omega,?_⟩;show l++[_]=(List.range (v+1)).map _;rw[List.range_succ,List.map_append,hl];rfl
 .have hlt:¬(v:Int)<M.S.n:=hlt;have hvn:v=M.S.n.toNat:=by omega
  refine Aoi hM hI hg (by rw[<-hvn];exact hll) ?_;have e:(λv:Int=>l.getD v.toNat false)=asN M.S.n.toNat k:=by unfold asN;rw[hl,hvn]
  refine⟨λht=>?_,λht=>?_⟩
  .have ht:F (λv:Int=>l.getD v.toNat false)=true:=ht;rw[e]at ht;rw[ht]at h;exact h
  .have ht:¬F (λv:Int=>l.getD v.toNat false)=true:=ht;rw[e]at ht;have:F (asN M.S.n.toNat k)=false:=by simpa using ht
   rw[this]at h;exact h
variable {L:Ae}
theorem Mt{Q:Option Nat×Int×Unit->UU}(hM:MnH H b M)(hI:MI M)(hL:R5 L)(hlt:M.S.n<2*Iv L)(h:Q (none,9,()) () H):Wp Y0 Fm Ep (some b,L,()) H Q X:=by refine Tq _ _ _ _ _ ?_;unfold Pt;have h1:=hL.sum (Nat.le_refl _);have hln:=hL.ln;have hlb:=hL.lb;refine⟨λhn=>absurd hn (by simp),λ_=>P5 hM hI (Acl hL λ_=>⟨Bk.2 ?_,λ_=>h,λhn=>absurd (show M.S.n<2*Iv L from hlt) hn⟩)⟩;show _<=2*Iv L/\2*Iv L<=_;unfold Iv;omega
theorem Aap{t:A6}{Q:Int×Int×Unit->UU}(hM:MnH H b M)(hI:MI M)(hL:R5 L)(hlt:M.S.n<2*Iv L)(h:Q (0,9,()) () H):Wp Y0 Tl Pe (some b,L,t,()) H Q X:=by refine Ai9 _ _ _ _ _ _ ?_;unfold Zo;exact Mt hM hI hL hlt ⟨λ_=>h,λhn=>absurd (show ¬(9:Int)=0 by decide) hn⟩
theorem Aao{next:Bool}{Q:Int×Int×Unit->UU}(hM:MnH H b M)(hI:MI M)(hL:R5 L)(hlt:M.S.n<2*Iv L)(h:Q (0,9,()) () H):Wp Y0 L4 Js (some b,L,next,()) H Q X:=by refine Zn _ _ _ _ _ _ ?_;unfold Tr;exact Mt hM hI hL hlt ⟨λ_=>h,λhn=>absurd (show ¬(9:Int)=0 by decide) hn⟩
theorem Aaq{i:Int}{t:A6}{Q:Int×Int×Unit->UU}(hM:MnH H b M)(hI:MI M)(hL:R5 L)(hlt:M.S.n<2*Iv L)(h:Q (0,9,()) () H):Wp Y0 To Pg (some b,L,i,t,()) H Q X:=by refine Ajb _ _ _ _ _ _ _ ?_;unfold Zq;exact Mt hM hI hL hlt ⟨λ_=>h,λhn=>absurd (show ¬(9:Int)=0 by decide) hn⟩
theorem Ys{s:List Int}{next:Bool}{Q:Int×Int×Unit->UU}(h:Q (0,5,()) () H):Wp Y0 Tm Pf (none,L,s,next,()) H Q X:=by refine Aja _ _ _ _ _ _ _ ?_;unfold Zp;exact Qy ⟨λ_=>h,λhn=>absurd (show ¬(5:Int)=0 by decide) hn⟩
end
section
def nmE:ByteArray:={data:={toList:=[]:Array UInt8}:ByteArray}
def nmN:ByteArray:={data:={toList:=[(110:UInt8)]:Array UInt8}:ByteArray}
def vrN:Bi:={Name:=nmN,Bool:=false,Lo:=(0:Int),Hi:=(2:Int):Bi}
def trN:A6:={Op:=(3:Int),N:=(0:Int),Name:=nmN,Kids:=[]:A6}
def tr1:A6:={Op:=(1:Int),N:=(1:Int),Name:=nmE,Kids:=[]:A6}
def trL:A6:={Op:=(14:Int),N:=(0:Int),Name:=nmE,Kids:=[trN,tr1]:A6}
theorem Axs:¬nmN={data:={toList:=[]:Array UInt8}:ByteArray}:=Ar3.2 (by decide)
theorem Awd(t:A6):A6.mk t.Op t.N t.Name t.Kids=t:=by cases t;rfl
variable {H:HY} {X:PX}
theorem Ab3{op:Int}{Q:Int×Int×Unit->UU}(ho:op=1∨op=3)(h:Q (0,0,()) () H):Wp Y0 Q1 No (op,()) H Q X:=by
 refine Aa7 _ _ _ _ ?_;unfold Um;rcases ho with e|e<;>subst e <;>
 repeat' first
  |exact h
  |(intro h';exact absurd h' (by decide))
  |refine⟨?_,?_⟩
  |intro _
theorem Aoq{Q:Int×Int×Unit->UU}(h:Q (2,2,()) () H):Wp Y0 Q1 No (14,()) H Q X:=by
 refine Aa7 _ _ _ _ ?_;unfold Um;repeat' first
  |exact h
  |(intro h';exact absurd h' (by decide))
  |refine⟨?_,?_⟩
  |intro _
def Azs(t:A6):Prop:=∀(H:HY)(X:PX)(Q:Int×Unit->UU),Q (0,()) () H->Wp Y0 Tf O8 (t,()) H Q X
theorem A0c:Azs trN:=by
 intro H X Q h;refine Ss _ _ _ _ ?_;unfold O5;refine Ab3 (.inr rfl) ?_;repeat' first
  |exact h
  |(intro h';exact absurd h' Axs)
  |(intro h';exact absurd Axs h')
  |(intro h';exact absurd h' (by decide))
  |refine⟨?_,?_⟩
  |intro _
theorem A0e:Azs tr1:=by
 intro H X Q h;refine Ss _ _ _ _ ?_;unfold O5;refine Ab3 (.inl rfl) ?_;repeat' first
  |exact h
  |(intro h';exact absurd (show nmE=nmE from rfl) h')
  |(intro h';exact absurd h' (by decide))
  |refine⟨?_,?_⟩
  |intro _
theorem A0d:Azs trL:=by
 intro H X Q h;refine Ss _ _ _ _ ?_;unfold O5;refine Aoq ?_;repeat' first
  |exact h
  |(intro h';exact absurd (show nmE=nmE from rfl) h')
  |(intro h';exact absurd h' (by decide))
  |refine⟨?_,?_⟩
  |intro _
def CkP:Nat->Int->A6->Prop
 |0,_,_=>False
 |f+1,deep,t=>deep<=64/\Azs t/\t.Kids.length<=64/\∀k∈t.Kids,CkP f (deep+1) k
def CkN:Nat->Nat
 |0=>0
 |f+1=>1+64*CkN f
abbrev CkC(n w:Nat):FT Y0 [.u 3,.int .i64] [.bool]:=λ(a:A6×Int×Unit)(H:HY)(Q:Bool×Unit->HP)(X:Nat->Lf Y0.D->HP)=>Wp Y0 L8 Ji (a.1,a.2.1,some n,some w,()) H (λ(b:Bool×Unit)(x:Unit)(H':HY)=>Q (b.1,()) H') X
variable {t:A6}
theorem A2e{deep x y:Int}{n w:Nat}{Q:Bool×Unit->UU}(hw:Azs t)(hd:deep<=64)(hx:0<=x/\x+1<=4096)(hnw:n≠w)(h1:H n=some (.st Dk x))(h2:H w=some (.st Dk y))(h:Q (true,()) () (Ab (Ab H n (.st Dk (x+1))) w (.st Dk (0:Int)))):Wp Y0 L8 Ji (t,deep,some n,some w,()) H Q X:=by refine Aer _ _ _ _ _ _ _ ?_;unfold U9;refine⟨n,rfl,x,h1,λ_=>⟨Bk.2 (by omega),λhh=>absurd hh (by show ¬64<deep;omega),λ_=>hw _ _ _ ⟨w,rfl,y,by rw[Ad _ _ (Ne.symm hnw)];exact h2,λ_=>⟨x+1,by rw[Ad _ _ hnw,Aj];rfl,λhh=>absurd hh (by show ¬4096<x+1;omega),λ_=>⟨rfl,0,Aj _ _ _,rfl,h⟩⟩,λhh=>absurd rfl hh⟩⟩⟩
theorem Arv{n w:Nat}(hnw:n≠w):∀(f:Nat)(deep:Int)(t:A6)(x:Int){H:HY}{X:PX}{Q:Bool×Unit->UU},CkP f deep t->0<=deep->H n=some (.st Dk x)->H w=some (.st Dk (0:Int))->0<=x->x+(CkN f:Int)<=4096->(∀H' x',x<=x'->x'<=x+(CkN f:Int)->H' n=some (.st Dk x')->H' w=some (.st Dk (0:Int))->(∀c,c≠n->c≠w->H' c=H c)->Q (true,()) () H')->Wp Y0 Ny K6 (t,deep,CkC n w,()) H Q X
 |0,_,_,_,_,_,_,h,_,_,_,_,_,_=>h.elim
 |f+1,deep,t,x,H,X,Q,⟨p1,p2,p3,p4⟩,hd,h1,h2,h3,h4,h=>by
  refine Ak2 _ _ _ _ _ _ ?_;unfold Aa5;have hN:(CkN (f+1):Int)=1+64*(CkN f:Int):=by show ((1+64*CkN f:Nat):Int)=_;omega
  rw[hN]at h4 h;refine A2e p2 p1 ⟨h3,by omega⟩ hnw h1 h2 ⟨λhh=>absurd rfl hh,λ_ _=>⟨λm z H'=>m=t.Kids.length-z.1/\z.1<=t.Kids.length/\∃x',x<=x'/\x'<=x+1+(z.1:Int)*(CkN f:Int)/\H' n=some (.st Dk x')/\H' w=some (.st Dk (0:Int))/\∀c,c≠n->c≠w->H' c=H c,⟨_,rfl,Nat.zero_le _,x+1,by omega,by show x+1<=x+1+((0:Nat):Int)*(CkN f:Int);omega,by rw[Ad _ _ hnw,Aj];rfl,Aj _ _ _,λc c1 c2=>by rw[Ad _ _ c2,Ad _ _ c1]⟩,?_⟩⟩;rintro m ⟨k,_⟩ H' ⟨hm0,hk0,x',hx1,hx20,g1,g2,g3⟩;have hm:m=t.Kids.length-k:=hm0;have hk:k<=t.Kids.length:=hk0;have hx2:x'<=x+1+(k:Int)*(CkN f:Int):=hx20;have hk64:(k:Int)*(CkN f:Int)<=64*(CkN f:Int):=Int.mul_le_mul_of_nonneg_right (by omega) (by omega);refine⟨λhkl _=>?_,λ_=>h H' x' hx1 (by omega) g1 g2 g3⟩;have hkl:k<t.Kids.length:=hkl;refine⟨hkl,λ_=>⟨Bk.2 (by omega),?_⟩⟩;have hk1:((k+1:Nat):Int)*(CkN f:Int)=(k:Int)*(CkN f:Int)+(CkN f:Int):=by rw[show ((k+1:Nat):Int)=(k:Int)+1 by omega,Int.add_mul,Int.one_mul]
  have hk64':((k+1:Nat):Int)*(CkN f:Int)<=64*(CkN f:Int):=Int.mul_le_mul_of_nonneg_right (by omega) (by omega);show Wp Y0 Ny K6 (A6.mk t.Kids[k].Op t.Kids[k].N t.Kids[k].Name t.Kids[k].Kids,deep+1,CkC n w,()) H' _ X;rw[Awd];refine Arv hnw f (deep+1) t.Kids[k] x' (p4 _ (List.getElem_mem hkl)) (by omega) g1 g2 (by omega) (by omega) λH2 x2 q1 q2 q3 q4 q5=>⟨λhh=>absurd rfl hh,λ_=>⟨by show k+1<=_;omega,t.Kids.length-(k+1),by omega,rfl,by show k+1<=_;omega,x2,by omega,?_,q3,q4,λc c1 c2=>(q5 c c1 c2).trans (g3 c c1 c2)⟩⟩
  show x2<=x+1+((k+1:Nat):Int)*(CkN f:Int);rw[hk1];omega
theorem Az7{f:Nat}{Q:Int×Unit->UU}(hc:CkP f 1 t)(hf:CkN f<=4096)(h:∀H',(∀c,H c≠none->H' c=H c)->Q (0,()) () H'):Wp Y0 Th Pa (t,()) H Q X:=by
 refine Aih _ _ _ _ ?_;unfold Yz;intro w hw n hn;have hnw:n≠w:=λe=>by rw[e,Aj]at hn;cases hn
 have hn':H n=none:=by rw[Ad _ _ hnw]at hn;exact hn
 refine⟨0,by rw[Ad _ _ (Ne.symm hnw),Aj],0,by rw[Ad _ _ hnw,Aj],?_⟩;refine Arv hnw f 1 t 0 hc (by decide) (Aj _ _ _) (by rw[Ad _ _ (Ne.symm hnw),Aj]) (Int.le_refl _) (by omega) λH' x' _ _ _ g2 g3=>⟨0,g2,rfl,h H' λc hc0=>?_⟩
 have c1:c≠n:=λe=>hc0 (by rw[e];exact hn');have c2:c≠w:=λe=>hc0 (by rw[e];exact hw);rw[g3 c c1 c2,Ad _ _ c1,Ad _ _ c2,Ad _ _ c1,Ad _ _ c2]
theorem A9v:CkP 2 1 trL:=by
 refine⟨by decide,A0d,by decide,λk hk=>?_⟩;rcases List.mem_cons.1 hk with e|hk
 .rw[e];exact⟨by decide,A0c,by decide,λk hk=>by cases hk⟩
 .rw[List.mem_singleton.1 hk];exact⟨by decide,A0e,by decide,λk hk=>by cases hk⟩
def mpN:List (ByteArray×Int):=[(nmN,0)]
theorem Axv{Q:List (ByteArray×Int)×Unit->UU}(h:Q (mpN,()) () H):Wp Y0 Tg O9 ([vrN],()) H Q X:=by
 refine Aig _ _ _ _ ?_;unfold Yy;refine λ_=>⟨λm z=>(m=1/\z.1=[]/\z.2.1=0)∨(m=0/\z.1=mpN/\z.2.1=1),⟨_,rfl,.inl ⟨rfl,rfl,rfl⟩⟩,?_⟩
 rintro m ⟨mp,k,_⟩ hh;rcases hh with ⟨h1,h2,h3⟩|⟨h1,h2,h3⟩
 .have h2:mp=[]:=h2;have h3:k=0:=h3;subst h2 h3;refine⟨λ_ _=>⟨by show 0<1;decide,λ_=>⟨by show 0+1<=9223372036854775807;omega,0,by omega,rfl,.inr ⟨rfl,rfl,rfl⟩⟩,λhn=>absurd (show ¬(Ac ([]:List (ByteArray×Int)) nmN).isSome=true by simp [Ac]) hn⟩,λhn=>absurd (show 0<1 by decide) hn⟩
 .have h2:mp=mpN:=h2;have h3:k=1:=h3;subst h2 h3;exact⟨λhn=>absurd hn (by show ¬1<1;decide),λ_=>h⟩
theorem Ak8{lo hi:Int}{Q:Ai×Int×Unit->UU}(h1:-1048576<=lo)(h2:hi<=1048576)(h3:lo<=hi)(h4:hi-lo<=4096)(h:Q ({Bool:=false,Lo:=lo,Hi:=hi:Ai},0,()) () H):Wp Y0 Dm C8 (lo,hi,()) H Q X:=by refine Ak3 _ _ _ _ _ ?_;unfold Aa6;exact⟨λhn=>by omega,λ_=>⟨λhn=>by omega,λ_=>⟨λhn=>by omega,λ_ _ _=>⟨Bk.2 (by omega),λhn=>by omega,λ_=>h⟩⟩⟩⟩
theorem A5d:Ac mpN nmN=some 0:=by simp [Ac,mpN]
variable {Q:Ai×Int×Unit->List (ByteArray×Int)×Unit->HP}
theorem A4k(h:Q ({Bool:=false,Lo:=1,Hi:=1:Ai},0,()) (mpN,()) H):Wp Y0 Lg Iy ([vrN],mpN,tr1,true,[],()) H Q X:=by refine Ul _ _ _ _ _ _ _ _ ?_;unfold Qz;exact⟨λ_=>Ak8 (by decide) (by decide) (by decide) (by decide) h,λhn=>absurd rfl hn⟩
theorem A4i(h:Q ({Bool:=false,Lo:=0,Hi:=2:Ai},0,()) (mpN,()) H):Wp Y0 Lg Iy ([vrN],mpN,trN,true,[],()) H Q X:=by
 refine Ul _ _ _ _ _ _ _ _ ?_;unfold Qz;have e:Ac mpN trN.Name=some 0:=A5d;rw[e];have fin:Wp Y0 Dm C8 (vrN.Lo,vrN.Hi,()) H (λ(b:Ai×Int×Unit)io H'=>Q (b.1,b.2.1,()) (mpN,()) H') X:=Ak8 (by decide) (by decide) (by decide) (by decide) h;repeat' first
  |exact fin
  |(intro h';exact absurd h' (by decide))
  |refine⟨?_,?_⟩
  |intro _
  |decide
theorem A4j(h:Q ({Bool:=false,Lo:=1,Hi:=3:Ai},0,()) (mpN,()) H):Wp Y0 Lg Iy ([vrN],mpN,trL,true,[{Bool:=false,Lo:=0,Hi:=2:Ai},{Bool:=false,Lo:=1,Hi:=1:Ai}],()) H Q X:=by
 refine Ul _ _ _ _ _ _ _ _ ?_;unfold Qz;have fin:Wp Y0 Ox K7 ((14:Int),{Bool:=false,Lo:=0,Hi:=2:Ai},{Bool:=false,Lo:=1,Hi:=1:Ai},()) H (λ(b:Ai×Int×Unit)io H'=>Q (b.1,b.2.1,()) (mpN,()) H') X:=by refine Ac6 _ _ _ _ _ _ ?_;unfold Tu;exact⟨λhn=>absurd hn (by decide),λ_=>⟨λ_ _ _=>⟨Bk.2 (by decide),λ_ _=>⟨Bk.2 (by decide),Ak8 (by decide) (by decide) (by decide) (by decide) h⟩⟩,λhn=>absurd rfl hn⟩⟩
 repeat' first
  |exact fin
  |(intro h';exact absurd h' (by decide))
  |refine⟨?_,?_⟩
  |intro _
  |decide
def A2s(t:A6)(ty:Ai):Prop:=∀(H:HY)(X:PX)(Q:Ai×Int×Unit->List (ByteArray×Int)×Unit->HP),Q (ty,0,()) (mpN,()) H->Wp Y0 Jv Ho ([vrN],mpN,t,true,()) H Q X
theorem Arx{ty:Ai}(hk:t.Kids=[])(hp:∀(H:HY)(X:PX)(Q:Ai×Int×Unit->List (ByteArray×Int)×Unit->HP),Q (ty,0,()) (mpN,()) H->Wp Y0 Lg Iy ([vrN],mpN,t,true,[],()) H Q X):A2s t ty:=by
 intro H X Q h;refine Yx _ _ _ _ _ _ _ ?_;unfold Su;refine λ_=>⟨λm z=>z.1=mpN/\z.2.2.1=[]/\z.2.2.2.1=0,⟨0,rfl,rfl,rfl,rfl⟩,?_⟩
 rintro m ⟨mp,bl,l,k,_⟩ ⟨h1,h2,h3⟩;have h1:mp=mpN:=h1;have h2:l=[]:=h2;have h3:k=0:=h3;subst h1 h2 h3;exact⟨λhn=>absurd hn (by show ¬0<t.Kids.length;rw[hk];exact Nat.lt_irrefl _),λ_=>hp _ _ _ h⟩
theorem A87:A2s trN {Bool:=false,Lo:=0,Hi:=2:Ai}:=Arx rfl λ_ _ _ h=>A4i h
theorem A89:A2s tr1 {Bool:=false,Lo:=1,Hi:=1:Ai}:=Arx rfl λ_ _ _ h=>A4k h
theorem A88:A2s trL {Bool:=false,Lo:=1,Hi:=3:Ai}:=by
 intro H X Q h;refine Yx _ _ _ _ _ _ _ ?_;unfold Su;refine λ_=>⟨λm z=>m=2-z.2.2.2.1/\z.1=mpN/\((z.2.2.2.1=0/\z.2.2.1=[])∨(z.2.2.2.1=1/\z.2.2.1=[{Bool:=false,Lo:=0,Hi:=2:Ai}])∨(z.2.2.2.1=2/\z.2.2.1=[{Bool:=false,Lo:=0,Hi:=2:Ai},{Bool:=false,Lo:=1,Hi:=1:Ai}])),⟨_,rfl,rfl,rfl,.inl ⟨rfl,rfl⟩⟩,?_⟩
 rintro m ⟨mp,bl,l,k,_⟩ ⟨h0,h1,h23⟩;have h1:mp=mpN:=h1;subst h1;rcases h23 with ⟨h2,h3⟩|⟨h2,h3⟩|⟨h2,h3⟩
 .have h2:k=0:=h2;have h3:l=[]:=h3;subst h2 h3;refine⟨λ_ _=>⟨by show 0<2;decide,?_⟩,λhn=>absurd (show 0<2 by decide) hn⟩;show Wp Y0 Jv Ho ([vrN],mpN,trN,true,()) H _ X;exact A87 _ _ _ ⟨λhn=>absurd rfl hn,λ_=>⟨by show (0+1)*24<=140737488355328;omega,by show 0+1<=9223372036854775807;omega,1,by show 1<m;have:m=2-0:=h0;omega,rfl,rfl,rfl,.inr (.inl ⟨rfl,rfl⟩)⟩⟩
 .have h2:k=1:=h2;have h3:l=[{Bool:=false,Lo:=0,Hi:=2:Ai}]:=h3;subst h2 h3;refine⟨λ_ _=>⟨by show 1<2;decide,?_⟩,λhn=>absurd (show 1<2 by decide) hn⟩;show Wp Y0 Jv Ho ([vrN],mpN,tr1,true,()) H _ X;exact A89 _ _ _ ⟨λhn=>absurd rfl hn,λ_=>⟨by show (1+1)*24<=140737488355328;omega,by show 1+1<=9223372036854775807;omega,0,by show 0<m;have:m=2-1:=h0;omega,rfl,rfl,rfl,.inr (.inr ⟨rfl,rfl⟩)⟩⟩
 .have h2:k=2:=h2;have h3:l=[{Bool:=false,Lo:=0,Hi:=2:Ai},{Bool:=false,Lo:=1,Hi:=1:Ai}]:=h3;subst h2 h3;exact⟨λhn=>absurd hn (by show ¬2<2;decide),λ_=>A4j h⟩
theorem A67{Q:Ai×Int×Unit->UU}(h:∀H',(∀c,H c≠none->H' c=H c)->Q ({Bool:=false,Lo:=1,Hi:=3:Ai},0,()) () H'):Wp Y0 Lh Iz ([vrN],trL,true,()) H Q X:=by refine Ak4 _ _ _ _ _ _ ?_;unfold Aa8;exact Az7 A9v (by decide) λH' f=>⟨λhn=>absurd rfl hn,λ_=>Axv (A88 _ _ _ (h H' f))⟩
end
end Go.Proofs.YtcbkbpjlbmalmaaGreatDoor
