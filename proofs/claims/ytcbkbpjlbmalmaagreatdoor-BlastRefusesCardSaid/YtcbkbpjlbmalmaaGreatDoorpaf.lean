/-
  The Y layer, part l: slicing; maps; function values. (Merged by program out of 5 texts.)
-/
import Derived.Test.YtcbkbpjlbmalmaaGreatDoorpae
namespace Go.Y
open Go Go.RowKit Go.X
section
section
variable {Y:Sys}
def opL:List (OL Y.D)->Nat->List (AV Y)×List (Nat×Seg Y)×Nat
 | [],n=>([],[],n)
 | .dat l::ls,n=>(.dat l.t l.x::(opL ls n).1,(opL ls n).2.1,(opL ls n).2.2)
 | .own t xs::ls,n=>(.own n::(opL ls (n+1)).1,(n,.sl t xs)::(opL ls (n+1)).2.1,(opL ls (n+1)).2.2)
 | .map k e m::ls,n=>(.own n::(opL ls (n+1)).1,(n,.mp k e m)::(opL ls (n+1)).2.1,(opL ls (n+1)).2.2)
 | .ownO _ none::ls,n=>(.val (.slice none 0 0)::(opL ls n).1,(opL ls n).2.1,(opL ls n).2.2)
 | .ownO t (some xs)::ls,n=>(.own n::(opL ls (n+1)).1,(n,.sl t xs)::(opL ls (n+1)).2.1,(opL ls (n+1)).2.2)
def spl:List (OL Y.D)->(List (OL Y.D)->Prop)->Prop
 | [],k=>k []
 | .ownO t o::ls,k=>(o=none->spl ls λl=>k (.ownO t none::l))/\∀xs,o=some xs->spl ls λl=>k (.ownO t (some xs)::l)
 | .dat l::ls,k=>spl ls λm=>k (.dat l::m)
 | .own t xs::ls,k=>spl ls λm=>k (.own t xs::m)
 | .map a b c::ls,k=>spl ls λm=>k (.map a b c::m)
theorem Ac7:∀{ls:List (OL Y.D)}{k:List (OL Y.D)->Prop},spl ls k->k ls
 | [],_,h=>h
 | .dat _::ls,_,h=>Ac7 (ls:=ls) h
 | .own _ _::ls,_,h=>Ac7 (ls:=ls) h
 | .map _ _ _::ls,_,h=>Ac7 (ls:=ls) h
 | .ownO t none::ls,_,h=>Ac7 (ls:=ls) (h.1 rfl)
 | .ownO t (some xs)::ls,_,h=>Ac7 (ls:=ls) (h.2 xs rfl)
theorem Adk:∀{ls:List (OL Y.D)}{vs:List Value}{A:Own}{g:Gst},OR Y g.I g.w vs ls A->∃g',g'.w=g.w/\g'.I=g.I/\Le g g'/\g'.n=(opL ls g.n).2.2/\F2 (λa v=>AR g' a v/\v.oneCell'=true) (opL ls g.n).1 vs/\SgR g' (opL ls g.n).2.1 A
 | [],[],A,g,h=>⟨g,rfl,rfl,Le.refl _,rfl,.nil,h⟩
 | .dat l::ls,v::vs,A,g,⟨h1,h2,h3⟩=>by obtain⟨g',k1,k2,k3,k4,k5,k6⟩:=Adk h3;exact⟨g',k1,k2,k3,k4,.cons ⟨(show AR g (.dat l.t l.x) v from h1).mono k3,h2⟩ k5,k6⟩
 | .own t xs::ls,v::vs,A,g,⟨A1,A2,he,h1,h2⟩=>by have hle:Le g (g.new g.w v):=Le.new (Ext.refl _ _);obtain⟨g',k1,k2,k3,k4,k5,k6⟩:=Adk (g:=g.new g.w v) h2;have hlt:g.n<g'.n:=k3.n;have hv:g'.μ g.n=v:=(k3.μ g.n (Nat.lt_succ_self _)).trans (g.Cz _ _);obtain⟨a,cap,h4,_⟩:=@Cc.len _ (RT Y.toUS t) _ _ _ _ _ h1;refine⟨g',k1,k2,hle.trans k3,k4,.cons ⟨⟨hlt,hv.symm⟩,by rw[h4];rfl⟩ k5,A1,A2,he,hlt,?_,k6⟩;show OSl Y t g'.I g'.w A1 (g'.μ g.n) xs;rw[hv,k1,k2];exact h1
 | .map k e m::ls,v::vs,A,g,⟨A1,A2,he,h1,h2⟩=>by have hle:Le g (g.new g.w v):=Le.new (Ext.refl _ _);obtain⟨g',k1,k2,k3,k4,k5,k6⟩:=Adk (g:=g.new g.w v) h2;have hlt:g.n<g'.n:=k3.n;have hv:g'.μ g.n=v:=(k3.μ g.n (Nat.lt_succ_self _)).trans (g.Cz _ _);obtain⟨b,es,cl,_,h4,_⟩:=@Dz.ex _ _ (RT Y.toUS k) (RT Y.toUS e) _ _ _ _ _ h1;refine⟨g',k1,k2,hle.trans k3,k4,.cons ⟨⟨hlt,hv.symm⟩,by rw[h4];rfl⟩ k5,A1,A2,he,hlt,?_,k6⟩;show OMp Y k e g'.I g'.w A1 (g'.μ g.n) m;rw[hv,k1,k2];exact h1
 | .ownO t none::ls,v::vs,A,g,⟨h1,h2⟩=>by obtain⟨g',k1,k2,k3,k4,k5,k6⟩:=Adk h2;exact⟨g',k1,k2,k3,k4,.cons ⟨h1,by rw[h1];rfl⟩ k5,k6⟩
 | .ownO t (some xs)::ls,v::vs,A,g,⟨A1,A2,he,h1,h2⟩=>by have hle:Le g (g.new g.w v):=Le.new (Ext.refl _ _);obtain⟨g',k1,k2,k3,k4,k5,k6⟩:=Adk (g:=g.new g.w v) h2;have hlt:g.n<g'.n:=k3.n;have hv:g'.μ g.n=v:=(k3.μ g.n (Nat.lt_succ_self _)).trans (g.Cz _ _);obtain⟨a,cap,h4,_⟩:=@Cc.len _ (RT Y.toUS t) _ _ _ _ _ h1;refine⟨g',k1,k2,hle.trans k3,k4,.cons ⟨⟨hlt,hv.symm⟩,by rw[h4];rfl⟩ k5,A1,A2,he,hlt,?_,k6⟩;show OSl Y t g'.I g'.w A1 (g'.μ g.n) xs;rw[hv,k1,k2];exact h1
 | .ownO _ _::_,[],_,_,r=>r.elim
 | .dat _::_,[],_,_,r=>r.elim
 | .own _ _::_,[],_,_,r=>r.elim
 | .map _ _ _::_,[],_,_,r=>r.elim
 | [],_::_,_,_,r=>r.elim
variable {g:Gst}
theorem SgR.app:∀{l l':List (Nat×Seg Y)}{A A':Own},SgR g l A->SgR g l' A'->SgR g (l++l') (A++A')
 | [],_,_,_,h,h'=>by rw[show _=[] from h];exact h'
 |_::_,_,_,_,⟨A1,A2,e,h1,h2,h3⟩,h'=>⟨A1,A2++_,by rw[e,List.append_assoc],h1,h2,h3.app h'⟩
def opn(c:Cf Y)(w b n:Nat)(k:Cf Y->Prop):Prop:=
 ∃x,c.H b=some (.st n x)/\spl (Y.ocl n x) λls=>k {c with sg:=(w,.blk (opL ls c.nx).1)::((opL ls c.nx).2.1++c.sg),nx:=(opL ls c.nx).2.2,op:=some ⟨w,b,n,some x⟩}
variable {g0:Gst} {T AH A:Own} {c:Cf Y} {f:Fr} {b:Nat} {k:Cf Y->Prop}
theorem A4m(h:RG g0 T c f g AH A)(hop:c.op=none){w n:Nat}(hk:opn c w b n k)(hw:w<g.n)(hb:g.μ w=.pointer (some ⟨b,0,none⟩)):∃c' g' AH' A',k c'/\g'.w=g.w/\Le g g'/\RG g0 T c' f g' AH' A':=by
 obtain⟨x,hx,hk⟩:=hk;replace hk:=Ac7 hk;have hr:=h.hr;rw[hop]at hr;obtain⟨B1,B2,ho,hX,hst⟩:=HpR.take hr hx h.st;obtain⟨arr,e,A',rfl,hor⟩:=ho;obtain⟨g',k1,k2,k3,k4,k5,k6⟩:=Adk hor;rw[h.n]at k4 k5 k6;refine⟨_,g',B2,[(b,.cells arr e (0,0))]++(A'++A),hk,k1,k3,k4,h.le.trans k3.ext,?_,⟨hX.mono k3.ext,λy hy=>?_,Nat.lt_of_lt_of_le hw k3.n,by show g'.μ w=_;rw[k3.μ w hw];exact hb⟩,⟨_,_,rfl,Nat.lt_of_lt_of_le hw k3.n,⟨b,arr,e,rfl,by rw[k3.μ w hw];exact hb,k5⟩,k6.app (h.sg.mono k3)⟩,h.hs.mono k3,k3.pt h.pt,λi a hi=>(h.fr i a hi).mono k3⟩
 .rw[k1,k2];refine hst.perm ?_;have:((b,Obj.cells arr e (0,0))::A')++(B2++(A++T))=([(b,.cells arr e (0,0))]++A')++(B2++(A++T)):=rfl;rw[this,<-List.append_assoc _ B2,<-List.append_assoc B2];refine(List.perm_append_comm.append_right _).trans ?_;simp [List.append_assoc]
 .cases hy;exact hx
def A07:AV Y->Bool
 | .val (.slice none 0 0)=>true
 |_=>false
variable {a:AV Y} {v:Value}
theorem Asp(h:A07 a=true)(ha:AR g a v):v=.slice none 0 0:=by
 unfold A07 at h;split at h
 .exact ha
 .cases h
def clO(T:Ty)(a:AV Y)(sg:List (Nat×Seg Y)):Option (OL Y.D×List (Nat×Seg Y)):=match a with
 | .own j=>match lkS sg j with
  |some (.sl t xs)=>match Ty.dec t T with
   | .isTrue _=>some (.ownO t (some xs),Kc sg j)
   | .isFalse _=>none
  |_=>none
 |a=>match A07 a with
  |true=>some (.ownO T none,sg)
  |false=>none
variable {sg:List (Nat×Seg Y)} {r:OL Y.D×List (Nat×Seg Y)}
theorem A6o{T:Ty}(h:clO T a sg=some r)(ha:AR g a v)(hs:SgR g sg A):∃A1 A2,A.Perm (A1++A2)/\(∀vs ls A',OR Y g.I g.w vs ls A'->OR Y g.I g.w (v::vs) (r.1::ls) (A1++A'))/\SgR g r.2 A2:=by
 unfold clO at h;split at h
 .rename_i j;split at h
  .rename_i t xs hj;split at h
   .cases h;obtain⟨A1,A2,k1,k2,k3,k4⟩:=hs.take hj;exact⟨A1,A2,k1,λvs ls A' hr=>⟨A1,A',rfl,by rw[ha.2];exact k3,hr⟩,k4⟩
   .cases h
  .cases h
 .split at h
  .rename_i hn;cases h;exact⟨[],A,List.Perm.refl _,λvs ls A' hr=>⟨Asp hn ha,hr⟩,hs⟩
  .cases h
def clD(k:RK)(a:AV Y)(sg:List (Nat×Seg Y)):Option (OL Y.D×List (Nat×Seg Y)):=match a with
 | .own j=>match lkS sg j with
  |some (.sl t xs)=>some (.own t xs,Kc sg j)
  |some (.mp k e m)=>some (.map k e m,Kc sg j)
  |_=>none
 | .sub j T lo=>match k,lkS sg j with
  | .own _,some (.sl t xs)=>match Ty.dec T t with
   | .isTrue _=>some (.own t (xs.drop lo),Kc sg j)
   | .isFalse _=>none
  |_,_=>none
 |a=>match k with
  | .dat t=>match t.leaf,asD t a with
   |true,some x=>some (.dat ⟨t,x⟩,sg)
   |_,_=>none
  | .own t=>match A07 a with
   |true=>some (.own t [],sg)
   |false=>none
  | .map _ _ | .ownO _=>none
theorem A6p{k:RK}(h:clD k a sg=some r)(ha:AR g a v)(h1:v.oneCell'=true)(hs:SgR g sg A):∃A1 A2,A.Perm (A1++A2)/\(∀vs ls A',OR Y g.I g.w vs ls A'->OR Y g.I g.w (v::vs) (r.1::ls) (A1++A'))/\SgR g r.2 A2:=by
 unfold clD at h;split at h
 .rename_i j;split at h
  .rename_i t xs hj;cases h;obtain⟨A1,A2,k1,k2,k3,k4⟩:=hs.take hj;exact⟨A1,A2,k1,λvs ls A' hr=>⟨A1,A',rfl,by rw[ha.2];exact k3,hr⟩,k4⟩
  .rename_i k' e m hj;cases h;obtain⟨A1,A2,k1,k2,k3,k4⟩:=hs.take hj;exact⟨A1,A2,k1,λvs ls A' hr=>⟨A1,A',rfl,by rw[ha.2];exact k3,hr⟩,k4⟩
  .cases h
 .split at h
  .rename_i hj;split at h
   .rename_i e _;subst e;cases h;obtain⟨A1,A2,k1,k2,k3,k4⟩:=hs.take hj;obtain⟨_,hv,a,len,cap,h5,hl⟩:=ha;refine⟨A1,A2,k1,λvs ls A' hr=>⟨A1,A',rfl,?_,hr⟩,k4⟩;obtain⟨a',cap',h6,_⟩:=@Cc.len _ (RT Y.toUS _) _ _ _ _ _ k3;rw[hv];refine @Cc.sub _ _ _ _ (RT Y.toUS _) _ _ _ k3 ?_;rw[h6]at h5;cases h5;exact hl
   .cases h
  .cases h
 .split at h
  .split at h
   .rename_i x hl hx;cases h;exact⟨[],A,List.Perm.refl _,λvs ls A' hr=>⟨E2 hx ha,h1,hr⟩,hs⟩
   .cases h
  .split at h
   .rename_i hn;cases h;refine⟨[],A,List.Perm.refl _,λvs ls A' hr=>⟨[],A',rfl,?_,hr⟩,hs⟩;rw[Asp hn ha];exact @Cc.nil _ (RT Y.toUS _) _ _
   .cases h
  .cases h
  .cases h
def clC(k:RK)(a:AV Y)(sg:List (Nat×Seg Y)):Option (OL Y.D×List (Nat×Seg Y)):=match k with
 | .ownO T=>clO T a sg
 |k=>clD k a sg
theorem A6q{k:RK}(h:clC k a sg=some r)(ha:AR g a v)(h1:v.oneCell'=true)(hs:SgR g sg A):∃A1 A2,A.Perm (A1++A2)/\(∀vs ls A',OR Y g.I g.w vs ls A'->OR Y g.I g.w (v::vs) (r.1::ls) (A1++A'))/\SgR g r.2 A2:=by
 unfold clC at h;split at h
 .exact A6o h ha hs
 .exact A6p h ha h1 hs
def clL:List RK->List (AV Y)->List (Nat×Seg Y)->Option (List (OL Y.D)×List (Nat×Seg Y))
 | [],[],sg=>some ([],sg)
 |k::ks,a::l,sg=>match clC k a sg with
  |some r=>match clL ks l r.2 with
   |some q=>some (r.1::q.1,q.2)
   |none=>none
  |none=>none
 |_,_,_=>none
theorem Aze{g:Gst}:∀{ks:List RK}{l:List (AV Y)}{vs:List Value}{sg:List (Nat×Seg Y)}{A:Own}{r:List (OL Y.D)×List (Nat×Seg Y)},clL ks l sg=some r->F2 (λa v=>AR g a v/\v.oneCell'=true) l vs->SgR g sg A->∃A1 A2,A.Perm (A1++A2)/\OR Y g.I g.w vs r.1 A1/\SgR g r.2 A2
 | [],[],vs,sg,A,r,h,hf,hs=>by cases h;cases hf;exact⟨[],A,List.Perm.refl _,rfl,hs⟩
 |k::ks,a::l,_,sg,A,r,h,.cons h1 h2,hs=>by
  unfold clL at h;split at h
  .rename_i r1 hr1;split at h
   .rename_i q hq;cases h;obtain⟨A1,A2,k1,k2,k3⟩:=A6q hr1 h1.1 h1.2 hs;obtain⟨B1,B2,m1,m2,m3⟩:=Aze hq h2 k3;refine⟨A1++B1,B2,?_,k2 _ _ _ m2,m3⟩;rw[List.append_assoc];exact k1.trans (m1.append_left A1)
   .cases h
  .cases h
 | [],_::_,_,_,_,_,h,_,_=>by simp [clL]at h
 |_::_,[],_,_,_,_,h,_,_=>by simp [clL]at h
def Aov(c:Cf Y):List RK->List (AV Y)->Cf Y
 | .dat _::ks,.own i::l=>Aov (c.frz i) ks l
 | .dat _::ks,.sub i _ _::l=>Aov (c.frz i) ks l
 |_::ks,_::l=>Aov c ks l
 |_,_=>c
theorem A1u:∀(ks:List RK)(l:List (AV Y)){g:Gst}{A:Own}{c:Cf Y},RG g0 T c f g AH A->∃g' A',g'.w=g.w/\Le g g'/\RG g0 T (Aov c ks l) f g' AH A':=by
 intro ks;induction ks with
 |nil=>intro l g A c h;refine⟨g,A,rfl,Le.refl _,?_⟩;cases l<;>exact h
 |cons k ks ih=>
  intro l g A c h;cases l with
  |nil=>refine⟨g,A,rfl,Le.refl _,?_⟩;cases k<;>exact h
  |cons a l=>
   have one:∀i,∃g' A',g'.w=g.w/\Le g g'/\RG g0 T (Aov (c.frz i) ks l) f g' AH A':=λi=>by obtain⟨g1,A1,h1,_,h2,h3⟩:=h.frz i;obtain⟨g2,A2,h4,h5,h6⟩:=ih l h3;exact⟨g2,A2,h4.trans h1,h2.trans h5,h6⟩
   unfold Aov;split
   .rename_i e1 e2;cases e1;cases e2;exact one _
   .rename_i e1 e2;cases e1;cases e2;exact one _
   .rename_i e1 e2;cases e1;cases e2;exact ih _ h
   .exact⟨g,A,rfl,Le.refl _,h⟩
def cls(c:Cf Y)(k:Cf Y->Prop):Prop:=match c.op with
 |none=>k c
 |some o=>match lkS c.sg o.i with
  |some (.blk cs)=>(λc2:Cf Y=>match c2.op with
   |none=>False
   |some o2=>match lkS c2.sg o2.i with
    |some (.blk cs2)=>match clL (Y.Aw8 o2.n) cs2 (Kc c2.sg o2.i) with
     |some r=>match Y.oun o2.n r.1 with
      |some x'=>match o2.x with
       |some x=>x'=x/\k {c2 with sg:=r.2,op:=none}
       |none=>k {c2 with sg:=r.2,op:=none,H:=Ab c2.H o2.b (.st o2.n x')}
      |none=>False
     |none=>False
    |_=>False) (Aov c (Y.Aw8 o.n) cs)
  |_=>False
theorem Fi(h:RG g0 T c f g AH A)(hk:cls c k):∃c' g' AH' A',k c'/\g'.w=g.w/\Le g g'/\RG g0 T c' f g' AH' A'/\(c.op=none->c'=c)/\c'.op=none:=by
 unfold cls at hk;split at hk
 .rename_i hop;exact⟨c,g,AH,A,hk,rfl,Le.refl _,h,λ_=>rfl,hop⟩
 .rename_i o hop;split at hk
  .rename_i cs hs;obtain⟨g2,A2,hw2,hle2,h2⟩:=A1u (Y.Aw8 o.n) cs h;generalize Aov c (Y.Aw8 o.n) cs=c2 at hk h2;split at hk
   .exact hk.elim
   .rename_i o2 hop2;split at hk
    .rename_i cs2 hs2;split at hk
     .rename_i r hr;split at hk
      .rename_i x' hx';have hH:=h2.hr;rw[hop2]at hH;obtain⟨hX,hold,hi,hμ⟩:=hH;obtain⟨C1,C2,k0,k1,⟨b',arr,e,rfl,hb',hf⟩,k3⟩:=h2.sg.take hs2;rw[hμ]at hb';cases hb';obtain⟨D1,D2,m1,m2,m3⟩:=Aze hr hf k3;have hob:obR Y (.st o2.n x') g2.I g2.w ((o2.b,.cells arr e (0,0))::D1) o2.b:=⟨arr,e,D1,rfl,by rw[Y.Aw7 _ _ _ hx'];exact m2⟩
       have hst:St g2.I g2.w ((((o2.b,.cells arr e (0,0))::D1)++AH)++(D2++T)):=by refine h2.st.perm ?_;refine(((k0.trans (m1.append_left _)).append_right T).append_left AH).trans ?_;simp only[List.append_assoc,List.cons_append,List.nil_append];refine List.perm_middle.trans (List.Perm.cons _ ?_);rw[<-List.append_assoc,<-List.append_assoc D1];exact List.perm_append_comm.append_right _
       split at hk
       .rename_i x hx;obtain⟨he,hk⟩:=hk;subst he;exact⟨_,g2,_,D2,hk,hw2,hle2,⟨h2.n,h2.le,hst,HpX.back hX (hold _ hx) hob,m3,h2.hs,h2.pt,h2.fr⟩,(λe=>by rw[hop]at e;cases e),rfl⟩
       .exact⟨_,g2,_,D2,hk,hw2,hle2,⟨h2.n,h2.le,hst,HpX.lay hX hob,m3,h2.hs,h2.pt,h2.fr⟩,(λe=>by rw[hop]at e;cases e),rfl⟩
      .exact hk.elim
     .exact hk.elim
    .exact hk.elim
  .exact hk.elim
def kdO(c:Cf Y)(t:TypeId)(w:Nat):Option Nat:=match lkH c.hs w with
 |some ⟨_,_,some n⟩=>some n
 |_=>Y.ok t
def opA(c:Cf Y)(t:TypeId)(w b:Nat)(k:Cf Y->Prop):Prop:=match lkS c.sg w with
 |some (.blk _)=>k c
 |_=>match kdO c t w with
  |some n=>cls c λc=>opn c w b n k
  |none=>False
theorem Axg(h:RG g0 T c f g AH A){t:TypeId}{w:Nat}(hk:opA c t w b k)(hw:w<g.n)(hb:g.μ w=.pointer (some ⟨b,0,none⟩)):∃c' g' AH' A',k c'/\g'.w=g.w/\Le g g'/\RG g0 T c' f g' AH' A':=by
 unfold opA at hk;split at hk
 .exact⟨c,g,AH,A,hk,rfl,Le.refl _,h⟩
 .split at hk
  .rename_i n hn;obtain⟨c1,g1,AH1,A1,k1,k2,k3,k4,_,k5⟩:=Fi h hk;obtain⟨c2,g2,AH2,A2,m1,m2,m3,m4⟩:=A4m k4 k5 k1 (Nat.lt_of_lt_of_le hw k3.n) (by rw[k3.μ w hw];exact hb);exact⟨c2,g2,AH2,A2,m1,m2.trans k2,k3.trans m3,m4⟩
  .exact hk.elim
def Anu(c:Cf Y)(t:TypeId)(a:AV Y)(k:AV Y->Cf Y->Prop):Prop:=match a with
 | .hp w b o=>opA c t w b (k (.hp w b o))
 | .ptr _ _=>adA c 0 (Y.ok t) (λa c=>match a with
  | .hp w b o=>opA c t w b (k (.hp w b o))
  |_=>False) a
 |a=>k a c
theorem Xw(h:RG g0 T c f g AH A){t:TypeId}{k:AV Y->Cf Y->Prop}(hk:Anu c t a k)(ha:AR g a v):∃a' c' g' AH' A',k a' c'/\g'.w=g.w/\Le g g'/\RG g0 T c' f g' AH' A'/\AR g' a' v:=by
 unfold Anu at hk;split at hk
 .obtain⟨c1,g1,AH1,A1,k1,k2,k3,k4⟩:=Axg h hk ha.1 ha.2.1;exact⟨_,c1,g1,AH1,A1,k1,k2,k3,k4,ha.mono k3⟩
 .obtain⟨b,o,d,c1,h1,h2,h3,h4⟩:=Are h hk ha;split at h2
  .obtain⟨c2,g2,AH1,A1,k1,k2,k3,k4⟩:=Axg h4 h2 h3.1 h3.2.1;refine⟨_,c2,g2,AH1,A1,k1,k2,k3,k4,?_⟩;rw[h1];exact h3.mono k3
  .exact h2.elim
 .exact⟨a,c,g,AH,A,hk,rfl,Le.refl _,h,ha⟩
theorem Ab9{I:Reg}{w:World}{H:HH Y}{x:Obj}(h:HpR (HK' Y) I w H AH)(s:St I w ((b,x)::(AH++T))):H b=none:=by obtain⟨L,h1,h2⟩:=h.ex;rw[<-h1 b];refine h2.fresh λp hp e=>?_;have hn:=s.nodup;rw[List.map_cons,List.nodup_cons]at hn;exact hn.1 (List.mem_map.2 ⟨p,List.mem_append_left _ hp,e⟩)
def Axt(c:Cf Y)(n:Nat)(cs:List (AV Y))(k:AV Y->Cf Y->Prop):Prop:=match c.op with
 |none=>∀b,c.H b=none->k (.hp c.nx b 0) {c with sg:=(c.nx,.blk cs)::c.sg,nx:=c.nx+1,op:=some ⟨c.nx,b,n,none⟩,hs:=⟨c.nx,b,some n⟩::c.hs}
 |some _=>False
theorem A08(h:RG g0 T c f g AH A){n:Nat}{cs:List (AV Y)}{vs:Array Value}{e:TypeId}{k:AV Y->Cf Y->Prop}(hk:Axt c n cs k)(hf:F2 (λa v=>AR g a v/\v.oneCell'=true) cs vs.toList):∃a c' g' A',k a c'/\Le g g'/\g'.w=g.w.alloc (.cells vs e)/\RG g0 T c' f g' AH A'/\AR g' a (.pointer (some ⟨g.w.heap.size,0,none⟩)):=by
 unfold Axt at hk;split at hk
 .rename_i hop;obtain⟨e1,s1⟩:=h.st.alloc (.cells vs e);have hle:=Le.new (g:=g) (v:=.pointer (some ⟨g.w.heap.size,0,none⟩)) e1;have hr:=h.hr;rw[hop]at hr;have hr':=HpR.mono hr e1;have hfr:c.H g.w.heap.size=none:=Ab9 hr' s1;have hnew:=h.new (s:=.blk cs) (v:=.pointer (some ⟨g.w.heap.size,0,none⟩)) e1 ⟨_,vs,e,rfl,g.Cz _ _,hf.mono λ_ _ r=>⟨r.1.mono hle,r.2⟩⟩ s1;obtain⟨L,h1,h2⟩:=hr'.ex;refine⟨_,_,g.new (g.w.alloc (.cells vs e)) (.pointer (some ⟨g.w.heap.size,0,none⟩)),_,hk _ hfr,hle,rfl,⟨hnew.n,hnew.le,hnew.st,⟨⟨L,λc _=>h1 c,h2⟩,λx hx=>(by cases hx),?_,?_⟩,hnew.sg,?_,hnew.pt,hnew.fr⟩,?_⟩
  .rw[<-h.n];exact Nat.lt_succ_self _
  .rw[<-h.n];exact g.Cz _ _
  .intro x hx;rcases List.mem_cons.1 hx with rfl|hx
   .rw[<-h.n];exact⟨Nat.lt_succ_self _,g.Cz _ _⟩
   .exact hnew.hs x hx
  .rw[<-h.n];exact⟨Nat.lt_succ_self _,g.Cz _ _,rfl⟩
 .exact hk.elim
end
end
section
section
variable {Y:Sys}
def Eff(g0:Gst)(T:Own)(f:Fr)(w:World)(op:Op)(k:AV Y->Cf Y->Prop)(g:Gst):Prop:=∀(N:Nat)(ops:Array Oper)(R:List PanicEntry->World->Prop)(K:Fr->World->Prop)(os:List Oper)(dst:Option Tmp)(ty:TypeId)(pos:String)(af:Array Edge),(∀v a c' g' AH' A',Le g g'->RG g0 T c' f g' AH' A'->AR g' a v->k a c'->WL Y.P N ops R false K os (X.put N f dst v) g'.w)->WL Y.P N ops R false K (⟨dst,op,ty,pos,af,none⟩::os) f w
def Cf.Hd(c:Cf Y):Cf Y:={c with op:=match c.op with|none=>none|some o=>some ⟨o.i,o.b,o.n,none⟩}
variable {g0 g:Gst} {T AH A:Own} {c:Cf Y} {f:Fr}
theorem RG.Hd(h:RG g0 T c f g AH A):RG g0 T c.Hd f g AH A:=by
 refine⟨h.n,h.le,h.st,?_,h.sg,h.hs,h.pt,h.fr⟩;have:=h.hr;show HR g c.H c.sg AH (match c.op with|none=>none|some o=>some ⟨o.i,o.b,o.n,none⟩);cases ho:c.op with
 |none=>rw[ho]at this;exact this
 |some o=>rw[ho]at this;exact⟨this.1,(λx hx=>by cases hx),this.2.2⟩
variable {b:Nat} {e t:TypeId}
theorem storeCells{P:Program}{I:Reg}{w:World}{o n:Nat}{cs:Array Value}{y:Value}{agg:Bool}(ht:tyB P t agg n=true)(hs:St I w ([(b,.cells cs e (0,0))]++T))(hn:y.cells.size=n)(hv:∀v∈y.cells.toList,v.oneCell'=true)(ho:o+n<=cs.size):∃w' row,(Instr.storeAt t (.pointer (some ⟨b,o,none⟩)) y).run P w=.ok () w'/\Ext I w I w'/\St I w' ([(b,.cells row e (0,0))]++T)/\row.toList=cs.toList.take o++(y.cells.toList++cs.toList.drop (o+n)):=by
 have hst:=run_storeCells_at P b o e y.cells.toList 0 cs w hs.heap (by simp;omega) hv;simp only[Nat.add_zero]at hst;generalize hrow:(List.take o cs.toList++y.cells.toList++List.drop (o+y.cells.toList.length) cs.toList).toArray=row at hst;obtain⟨e1,s1⟩:=hs.write (w':=w.setRow b row) rfl rfl rfl (by simp [World.setRow]) (setRow_heap w b cs _ e _ hs.heap) (λc hc=>setRow_other w b c _ hc);refine⟨_,row,?_,e1,s1,?_⟩
 .simp [Instr.storeAt,Instr.sureAddr,storeVar,(K4 (w:=w) ht).2,hn,hst]
 .subst hrow;simp [hn]
def stB(c:Cf Y)(i:Nat)(cs:List (AV Y))(o:Nat)(t:TypeId)(a:AV Y)(k:Cf Y->Prop):Prop:=match Y.ty t with
 |some (.u n)=>match Afh a (Y.sig n) with
  |some l=>chk (tyB Y.P t true (Y.sig n).length&&Nat.beq l.length (Y.sig n).length&&Nat.ble (o+(Y.sig n).length) cs.length&&l.all λx=>x.t.leaf)
   (k {c.Hd with sg:=(i,.blk (cs.take o++(l.map (λx=>AV.dat x.t x.x)++cs.drop (o+(Y.sig n).length))))::Kc c.sg i})
  |none=>False
 |_=>chk (tyB Y.P t false 1&&Auu c a&&Nat.blt o cs.length) (k {c.Hd with sg:=(i,.blk (cs.take o++([a]++cs.drop (o+1))))::Kc c.sg i})
variable {cs:List (AV Y)} {a:AV Y} {x y:Operand} {kk:AV Y->Cf Y->Prop}
theorem Awi(h:RG g0 T c f g AH A){i o:Nat}(hs:lkS c.sg i=some (.blk cs))(hk:stB c i cs o t a λc'=>kk (.val undef) c')(hi:g.μ i=.pointer (some ⟨b,0,none⟩))(hx:ev f x=.pointer (some ⟨b,o,none⟩))(ha:AR g a (ev f y)):Eff g0 T f g.w (.store t x y) kk g:=by
 intro N ops R K os dst ty pos af next;obtain⟨A1,A2,⟨b',arr,e,rfl,hb',hf⟩,hin,hst,back⟩:=h.Hd.upd (s:=.blk cs) hs;rw[hi]at hb';cases hb';have fin:∀{w':World}{row:Array Value}{cs':List (AV Y)},(Instr.storeAt t (.pointer (some ⟨b,o,none⟩)) (ev f y)).run Y.P g.w=.ok () w'->Ext g.I g.w g.I w'->St g.I w' ([(b,.cells row e (0,0))]++(AH++(A2++T)))->
   (∀g',Le g g'->F2 (λa v=>AR g' a v/\v.oneCell'=true) cs' row.toList)->kk (.val undef) {c.Hd with sg:=(i,.blk cs')::Kc c.sg i}->WL Y.P N ops R false K (⟨dst,.store t x y,ty,pos,af,none⟩::os) f g.w:=λ{w' row cs'}h1 h2 h3 h4 h5=>by
  have hle:Le g {g with w:=w'}:=⟨h2,Nat.le_refl _,λ_ _=>rfl,rfl⟩
  have:=next undef (.val undef) _ {g with w:=w'} AH ([(b,.cells row e (0,0))]++A2) hle (back (.blk cs') [(b,.cells row e (0,0))] {g with w:=w'} hle rfl ⟨b,row,e,rfl,hi,h4 _ hle⟩ h3) rfl h5
  exact Uj (by simp [execOp,hx,h1]) this
 unfold stB at hk;split at hk
 .rename_i n hn;split at hk
  .rename_i l hl;obtain⟨hc,hk⟩:=Bj hk;simp only[Bool.and_eq_true,Nat.beq_eq,Nat.ble_eq]at hc;obtain⟨⟨⟨ht,hlen⟩,hle⟩,hleaf⟩:=hc;have hfl:=Ag1 hl ha;have hone:=Aoo hfl hleaf;have hsz:(ev f y).cells.size=(Y.sig n).length:=by have:=hfl.len;simp at this;omega
   have hcs:cs.length=arr.size:=by have:=hf.len;simpa using this
   obtain⟨w',row,h1,h2,h3,h4⟩:=storeCells (o:=o) ht hst hsz hone (by omega);refine fin h1 h2 h3 (λg' hg'=>?_) hk;rw[h4];refine((hf.take o).mono λ_ _ r=>⟨r.1.mono hg',r.2⟩).app (.app ?_ ((hf.drop _).mono λ_ _ r=>⟨r.1.mono hg',r.2⟩));refine Az3 (Az5 (Atx hfl) λv hv a r=>⟨?_,hone v hv⟩);exact(show AR g (.dat a.t a.x) v from r).mono hg'
  .exact hk.elim
 .obtain⟨hc,hk⟩:=Bj hk;simp only[Bool.and_eq_true,Nat.blt_eq]at hc;obtain⟨⟨ht,hone⟩,hlt⟩:=hc;have hone:=Asf h hone ha;have hcs:cs.length=arr.size:=by have:=hf.len;simpa using this
  have hc1:(ev f y).cells=#[ev f y]:=by generalize ev f y=v at hone;cases v<;>first|rfl|simp [Value.oneCell']at hone
  obtain⟨w',row,h1,h2,h3,h4⟩:=storeCells (o:=o) (n:=1) ht hst (by rw[hc1];rfl) (by rw[hc1];simpa using hone) (by omega);refine fin h1 h2 h3 (λg' hg'=>?_) hk;rw[h4,hc1];exact((hf.take o).mono λ_ _ r=>⟨r.1.mono hg',r.2⟩).app (.app (.cons ⟨ha.mono hg',hone⟩ .nil) ((hf.drop _).mono λ_ _ r=>⟨r.1.mono hg',r.2⟩))
def stE(c:Cf Y)(i:Nat)(T:Ty)(j:Nat)(T':Ty)(xs:List (den Y.D T'))(t:TypeId)(a:AV Y)(k:Cf Y->Prop):Prop:=match Ty.dec T T' with
 | .isTrue _=>match asD T' a with
  |some d=>chk (tyB Y.P t (isU T') (sz Y.toUS T')) (j<xs.length/\k {c.Hd with sg:=(i,.sl T' (xs.set j d))::Kc c.sg i})
  |none=>False
 | .isFalse _=>False
theorem A30{T0:Own}(h:RG g0 T0 c f g AH A){i j off len cap:Nat}{T T':Ty}{xs:List (den Y.D T')}(hs:lkS c.sg i=some (.sl T' xs))(hk:stE c i T j T' xs t a λc'=>kk (.val undef) c')(hi:g.μ i=.slice (some ⟨b,off,none⟩) len cap)(hx:ev f x=.pointer (some ⟨b,off+j*sz Y.toUS T+0,none⟩))(ha:AR g a (ev f y)):Eff g0 T0 f g.w (.store t x y) kk g:=by
 intro N ops R K os dst ty pos af next;obtain⟨A1,A2,ho,hin,hst,back⟩:=h.Hd.upd (s:=.sl T' xs) hs;unfold stE at hk;split at hk
 .rename_i e _;subst e;split at hk
  .rename_i d hd;obtain⟨ht,hj,hk⟩:=Bj hk;have hat:At (g.μ i) (sz Y.toUS T) j ⟨b,off+j*sz Y.toUS T+0,none⟩:=⟨b,off,_,_,hi,rfl⟩
   letI:Rep (den Y.D T):=RT Y.toUS T
   obtain⟨A',w',h1,h2,h3,h4⟩:=At7 (α:=den Y.D T) ho hst hat hj (E2 hd ha) ht;have hle:Le g {g with w:=w'}:=⟨h2,Nat.le_refl _,λ_ _=>rfl,rfl⟩
   have:=next undef (.val undef) _ {g with w:=w'} AH (A'++A2) hle (back (.sl T (xs.set j d)) A' {g with w:=w'} hle rfl h4 h3) rfl hk;rw[Nat.add_zero]at h1;exact Uj (by simp [execOp,hx,h1]) this
  .exact hk.elim
 .exact hk.elim
def stX(c:Cf Y)(t:TypeId)(p a:AV Y)(k:Cf Y->Prop):Prop:=match p with
 | .adr i o=>match lkS c.sg i with
  |some (.blk cs)=>stB c i cs o t a k
  |_=>False
 | .hp i _ o=>match lkS c.sg i with
  |some (.blk cs)=>stB c i cs o t a k
  |_=>False
 | .el i T j 0=>match lkS c.sg i with
  |some (.sl T' xs)=>stE c i T j T' xs t a k
  |_=>False
 |_=>False
theorem Awh(h:RG g0 T c f g AH A){p:AV Y}(hk:stX c t p a λc'=>kk (.val undef) c')(hp:AR g p (ev f x))(ha:AR g a (ev f y)):Eff g0 T f g.w (.store t x y) kk g:=by
 unfold stX at hk;split at hk
 .split at hk
  .rename_i cs hs;obtain⟨_,b,h1,h2⟩:=hp;exact Awi h hs hk h1 h2 ha
  .exact hk.elim
 .split at hk
  .rename_i cs hs;exact Awi h hs hk hp.2.1 hp.2.2 ha
  .exact hk.elim
 .split at hk
  .rename_i T' xs hs;obtain⟨_,b,off,len,cap,h1,h2⟩:=hp;exact A30 h hs hk h1 h2 ha
  .exact hk.elim
 .exact hk.elim
variable {k:AV Y->Cf Y->Prop}
theorem Axu(h:RG g0 T c f g AH A){op:Op}{vs:Array Value}(hf:F2 (λa v=>AR g a v/\v.oneCell'=true) cs vs.toList)(hr:∀(dst:Option Tmp)(ty:TypeId)(pos:String)(af:Array Edge),(execOp (ev f) ⟨dst,op,ty,pos,af,none⟩).run Y.P g.w=.ok (.value (.pointer (some ⟨g.w.heap.size,0,none⟩))) (g.w.alloc (.cells vs e)))(hk:k (.adr c.nx 0) {c with sg:=(c.nx,.blk cs)::c.sg,nx:=c.nx+1}):Eff g0 T f g.w op k g:=by
 intro N ops R K os dst ty pos af next;obtain⟨e1,s1⟩:=h.st.alloc (.cells vs e);have hle:=Le.new (g:=g) (v:=.pointer (some ⟨g.w.heap.size,0,none⟩)) e1;refine Ax (hr dst ty pos af) (next _ (.adr c.nx 0) _ (g.new (g.w.alloc (.cells vs e)) (.pointer (some ⟨g.w.heap.size,0,none⟩))) AH _ hle (h.new e1 ?_ s1) ?_ hk)
 .exact⟨_,vs,e,rfl,g.Cz _ _,hf.mono λ_ _ r=>⟨r.1.mono hle,r.2⟩⟩
 .rw[<-h.n];exact⟨Nat.lt_succ_self _,_,g.Cz _ _,rfl⟩
theorem Ar5(dst:Option Tmp)(ty:TypeId)(pos:String)(af:Array Edge):(execOp (ev f) ⟨dst,.box e x,ty,pos,af,none⟩).run Y.P g.w=.ok (.value (.pointer (some ⟨g.w.heap.size,0,none⟩))) (g.w.alloc (.cells (ev f x).cells e)):=by simp [execOp,Instr.box,newVar,newRow]
def A6v(c:Cf Y)(pr:Option Nat)(a:AV Y)(k:AV Y->Cf Y->Prop):Prop:=match Ams c a with
 |some cs=>match pr with
  |none=>k (.adr c.nx 0) {c with sg:=(c.nx,.blk cs)::c.sg,nx:=c.nx+1}
  |some n=>Axt c n cs k
 |none=>False
theorem newObj(h:RG g0 T c f g AH A){op:Op}{n:Nat}{vs:Array Value}(hf:F2 (λa v=>AR g a v/\v.oneCell'=true) cs vs.toList)(hr:∀(dst:Option Tmp)(ty:TypeId)(pos:String)(af:Array Edge),(execOp (ev f) ⟨dst,op,ty,pos,af,none⟩).run Y.P g.w=.ok (.value (.pointer (some ⟨g.w.heap.size,0,none⟩))) (g.w.alloc (.cells vs e)))(hk:Axt c n cs k):Eff g0 T f g.w op k g:=by intro N ops R K os dst ty pos af next;obtain⟨a,c',g',A',k1,k2,k3,k4,k5⟩:=A08 (e:=e) h hk hf;exact Ax (by rw[k3];exact hr dst ty pos af) (next _ a c' g' AH A' k2 k4 k5 k1)
theorem A2j(h:RG g0 T c f g AH A){pr:Option Nat}(hk:A6v c pr a k)(ha:AR g a (ev f x)):Eff g0 T f g.w (.box e x) k g:=by
 unfold A6v at hk;split at hk
 .rename_i cs hcs;have hf:=Akp h hcs ha;split at hk
  .exact Axu h hf Ar5 hk
  .exact newObj h hf Ar5 hk
 .exact hk.elim
def zro(P:Program)(t:TypeId):Option Value:=(P.info? t).bind (·.zero)
def A7b(x:Lf Y.D)(v:Value):AV Y:=match x with
 |⟨.sl _,_⟩=>.val v
 |x=>.dat x.t x.x
def A3m:List (Lf Y.D)->List Value->List (AV Y)
 |x::l,v::vs=>A7b x v::A3m l vs
 |_,_=>[]
theorem Arn{g:Gst}:∀{l:List (Lf Y.D)}{vs:List Value},F2 (λc(l:Lf Y.D)=>rp Y.toUS l.t g.I g.w c l.x) vs l->vs.all (·.oneCell')=true->F2 (λa v=>AR g a v/\v.oneCell'=true) (A3m l vs) vs
 | [],[],_,_=>.nil
 |x::l,v::vs,.cons h1 h2,h3=>by
  simp only[List.all_cons,Bool.and_eq_true]at h3;refine .cons ⟨?_,h3.1⟩ (Arn h2 h3.2);unfold A7b;split
  .rfl
  .exact h1
def A3l(e:TypeId)(z:Value):Option (List (AV Y)):=match z.cells.toList.all (·.oneCell') with
 |true=>match Y.ty e with
  |some (.u n)=>match Pr (Y:=Y) (Y.sig n) z.cells.toList with
   |some l=>some (A3m l z.cells.toList)
   |none=>none
  |_=>some (A0g z.cells.toList)
 |false=>none
theorem Arm{z:Value}(h:A3l e z=some cs):F2 (λa v=>AR g a v/\v.oneCell'=true) cs z.cells.toList:=by
 unfold A3l at h;split at h
 .rename_i h1;split at h
  .split at h
   .rename_i l hl;cases h;exact Arn (Rx (I:=g.I) (w:=g.w) hl) h1
   .cases h
  .cases h;exact Afc h1
 .cases h
def A65(c:Cf Y)(pr:Option Nat)(e:TypeId)(k:AV Y->Cf Y->Prop):Prop:=match zro Y.P e with
 |some z=>match A3l (Y:=Y) e z with
  |some cs=>match pr with
   |none=>k (.adr c.nx 0) {c with sg:=(c.nx,.blk cs)::c.sg,nx:=c.nx+1}
   |some n=>Axt c n cs k
  |none=>False
 |none=>False
theorem A2q(h:RG g0 T c f g AH A){pr:Option Nat}(hk:A65 c pr e k):Eff g0 T f g.w (.alloc e) k g:=by
 unfold A65 at hk;split at hk
 .rename_i z hz;have run:∀(dst:Option Tmp)(ty:TypeId)(pos:String)(af:Array Edge),(execOp (ev f) ⟨dst,.alloc e,ty,pos,af,none⟩).run Y.P g.w=.ok (.value (.pointer (some ⟨g.w.heap.size,0,none⟩))) (g.w.alloc (.cells z.cells e)):=λdst ty pos af=>by
   unfold zro at hz;cases hi:Y.P.info? e with
   |none=>simp [hi]at hz
   |some i=>
    simp only[hi,Option.bind_some]at hz;simp [execOp,Instr.alloc,newVar,newRow,zeroValue,typeInfo,hi,hz]
  split at hk
  .rename_i cs hcs;split at hk
   .exact Axu h (Arm hcs) run hk
   .exact newObj h (Arm hcs) run hk
  .exact hk.elim
 .exact hk.elim
end
end
section
section
variable {Y:Sys}
def Aad(P:Program)(t:TypeId):Option (TypeId×TypeId):=match P.underlying t with
 |some (.map k e)=>some (k,e)
 |_=>none
variable {t:TypeId}
theorem Al1{P:Program}{p:TypeId×TypeId}(h:Aad P t=some p):P.underlying t=some (.map p.1 p.2):=by
 unfold Aad at h;split at h
 .rename_i h1;cases h;exact h1
 .cases h
theorem Al0{kt et:TypeId}{k e:Ty}(h:Aad Y.P t=some (kt,et))(hk:Y.km kt k=true):@Apw Y.P t kt et (den Y.D k) (den Y.D e) (RT Y.toUS k) (RT Y.toUS e) (L2 Y k):=@Apw.mk Y.P t kt et (den Y.D k) (den Y.D e) (RT Y.toUS k) (RT Y.toUS e) (L2 Y k) (Al1 h) (Y.Ayb kt k hk)
def Az9(t:TypeId)(T:Ty):Option (den Y.D T):=match zro Y.P t with
 |some z=>Adx T z
 |none=>none
theorem Aro{T:Ty}{x:den Y.D T}(h:Az9 t T=some x)(I:Reg)(w:World):∃z,(zeroValue t).run Y.P w=.ok z w/\rp Y.toUS T I w z x:=by
 unfold Az9 at h;split at h
 .rename_i z hz;refine⟨z,?_,Ya h⟩;unfold zro at hz;cases hi:Y.P.info? t with
  |none=>simp [hi]at hz
  |some i=>
   simp only[hi,Option.bind_some]at hz;simp [zeroValue,typeInfo,hi,hz]
 .cases h
def luX(c:Cf Y)(t:TypeId)(x y:Operand)(ok:Bool)(K:AV Y->Cf Y->Prop):Prop:=match Aad Y.P t,evA c x,evA c y with
 |some (kt,et),some (.own i),some b=>match lkS c.sg i with
  |some (.mp k e m)=>match asD k b,Az9 (Y:=Y) et e with
   |some kd,some zd=>chk (Y.km kt k) (match ok with
    |false=>K (.dat e ((@Ac _ _ (L2 Y k) m kd).getD zd)) c
    |true=>K (.own c.nx) {c with sg:=(c.nx,.tp [.dat e ((@Ac _ _ (L2 Y k) m kd).getD zd),.prp ((@Ac _ _ (L2 Y k) m kd).isSome=true) inferInstance])::c.sg,nx:=c.nx+1})
   |_,_=>False
  |_=>False
 |_,_,_=>False
variable {g0 g:Gst} {T AH A:Own} {c:Cf Y} {f:Fr} {x y:Operand} {K:AV Y->Cf Y->Prop}
theorem A5f(h:RG g0 T c f g AH A){ok:Bool}(hx:luX c t x y ok K):Eff g0 T f g.w (.lookup t x y ok) K g:=by
 intro N ops R Kw os dst ty pos af next;unfold luX at hx;split at hx
 .rename_i kt et i b hm ha hb;split at hx
  .rename_i k e m hs;split at hx
   .rename_i kd zd hk hz;obtain⟨hkm,hx⟩:=Bj hx;have hT:=Al0 (e:=e) hm hkm;obtain⟨A1,A2,ho,hin,hst,_⟩:=h.upd hs;obtain⟨z,hz1,hz2⟩:=Aro hz g.I g.w;have hv:=(h.ev ha).2;letI:Rep (den Y.D k):=RT Y.toUS k
    letI:Rep (den Y.D e):=RT Y.toUS e
    letI:DecidableEq (den Y.D k):=L2 Y k
    split at hx
    .exact Agm hT ho hst hv rfl (E2 hk (h.ev hb)) hz1 hz2 λu hu=>next u (.dat e ((Ac m kd).getD zd)) c g AH A (Le.refl _) h hu hx
    .refine Agl hT ho hst hv rfl (E2 hk (h.ev hb)) hz1 hz2 λu hu=>?_;generalize hvt:Value.tuple #[u,.bool (Ac m kd).isSome]=vt;have hle:Le g (g.new g.w vt):=Le.new (Ext.refl _ _);refine next vt (.own c.nx) _ (g.new g.w vt) AH A hle (h.new (A1:=[]) (s:=.tp [.dat e ((Ac m kd).getD zd),.prp ((Ac m kd).isSome=true) inferInstance]) (Ext.refl _ _) ⟨rfl,[u,.bool (Ac m kd).isSome],(g.Cz _ _).trans hvt.symm,.cons (show rp Y.toUS e _ _ u _ from Ig hle.ext hu) (.cons ?_ .nil)⟩ (by simpa using h.st)) ?_ hx
     .show Value.bool _=Value.bool _;cases hms:(Ac m kd).isSome<;>simp
     .rw[<-h.n];exact⟨Nat.lt_succ_self _,(g.Cz _ _).symm⟩
   .exact hx.elim
  .exact hx.elim
 .exact hx.elim
def mkM(c:Cf Y)(t:TypeId)(K:AV Y->Cf Y->Prop):Prop:=match Aad Y.P t with
 |some (kt,et)=>match Y.ty kt,Y.ty et with
  |some k,some e=>K (.own c.nx) {c with sg:=(c.nx,.mp k e [])::c.sg,nx:=c.nx+1}
  |_,_=>False
 |none=>False
theorem A5c(h:RG g0 T c f g AH A)(hx:mkM c t K):Eff g0 T f g.w (.makeMap t none) K g:=by
 intro N ops R Kw os dst ty pos af next;unfold mkM at hx;split at hx
 .split at hx
  .rename_i k e hk he;letI:Rep (den Y.D k):=RT Y.toUS k
   letI:Rep (den Y.D e):=RT Y.toUS e
   refine Ajy (den Y.D k) (den Y.D e) h.st λv A1 w' e1 s1 ho=>?_;have hle:Le g (g.new w' v):=Le.new e1;refine next v (.own c.nx) _ (g.new w' v) AH (A1++A) hle (h.new (s:=.mp k e []) e1 ?_ s1) ?_ hx
   .show OMp Y k e _ _ A1 ((g.new w' v).μ g.n) [];rw[g.Cz];exact ho
   .rw[<-h.n];exact⟨Nat.lt_succ_self _,(g.Cz _ _).symm⟩
  .exact hx.elim
 .exact hx.elim
def upM(c:Cf Y)(t:TypeId)(x y z:Operand)(K:AV Y->Cf Y->Prop):Prop:=match Aad Y.P t,evA c x,evA c y,evA c z with
 |some (kt,_),some (.own i),some b,some d=>match lkS c.sg i with
  |some (.mp k e m)=>match asD k b,asD e d with
   |some kd,some ed=>chk (Y.km kt k) (K (.val undef) {c.Hd with sg:=(i,.mp k e (@C4 _ _ (L2 Y k) m kd ed))::Kc c.sg i})
   |_,_=>False
  |_=>False
 |_,_,_,_=>False
theorem Av7(h:RG g0 T c f g AH A){z:Operand}(hx:upM c t x y z K):Eff g0 T f g.w (.mapUpdate t x y z) K g:=by
 intro N ops R Kw os dst ty pos af next;unfold upM at hx;split at hx
 .rename_i kt et i b d hm ha hb hd;split at hx
  .rename_i k e m hs;split at hx
   .rename_i kd ed hk he;obtain⟨hkm,hx⟩:=Bj hx;have hT:=Al0 (e:=e) hm hkm;obtain⟨A1,A2,ho,hin,hst,back⟩:=h.Hd.upd (s:=.mp k e m) hs;have hv:=(h.ev ha).2;letI:Rep (den Y.D k):=RT Y.toUS k
    letI:Rep (den Y.D e):=RT Y.toUS e
    letI:DecidableEq (den Y.D k):=L2 Y k
    refine An4 hT ho hst hv rfl rfl (E2 hk (h.ev hb)) (E2 he (h.ev hd)) λA' w' e1 s1 ho'=>?_;have hle:Le g {g with w:=w'}:=⟨e1,Nat.le_refl _,λ_ _=>rfl,rfl⟩
    exact next undef (.val undef) _ {g with w:=w'} AH (A'++A2) hle (back (.mp k e (C4 m kd ed)) A' {g with w:=w'} hle rfl ho' s1) rfl hx
   .exact hx.elim
  .exact hx.elim
 .exact hx.elim
def dlM(c:Cf Y)(t:TypeId)(x y:Operand)(K:AV Y->Cf Y->Prop):Prop:=match Aad Y.P t,evA c x,evA c y with
 |some (kt,_),some (.own i),some b=>match lkS c.sg i with
  |some (.mp k e m)=>match asD k b with
   |some kd=>chk (Y.km kt k) (K (.val (.tuple #[])) {c.Hd with sg:=(i,.mp k e (@Ez _ _ (L2 Y k) m kd))::Kc c.sg i})
   |_=>False
  |_=>False
 |_,_,_=>False
theorem A6d(h:RG g0 T c f g AH A){at_:Array TypeId}(hat:at_[0]?=some t)(hx:dlM c t x y K):Eff g0 T f g.w (.call ⟨.builtin .delete,#[x,y],at_⟩) K g:=by
 intro N ops R Kw os dst ty pos af next;unfold dlM at hx;split at hx
 .rename_i kt et i b hm ha hb;split at hx
  .rename_i k e m hs;split at hx
   .rename_i kd hk;obtain⟨hkm,hx⟩:=Bj hx;have hT:=Al0 (e:=e) hm hkm;obtain⟨A1,A2,ho,hin,hst,back⟩:=h.Hd.upd (s:=.mp k e m) hs;have hv:=(h.ev ha).2;letI:Rep (den Y.D k):=RT Y.toUS k
    letI:Rep (den Y.D e):=RT Y.toUS e
    letI:DecidableEq (den Y.D k):=L2 Y k
    refine An5 hT ho hst hv rfl (E2 hk (h.ev hb)) hat λA' w' e1 s1 ho'=>?_;have hle:Le g {g with w:=w'}:=⟨e1,Nat.le_refl _,λ_ _=>rfl,rfl⟩
    exact next _ (.val (.tuple #[])) _ {g with w:=w'} AH (A'++A2) hle (back (.mp k e (Ez m kd)) A' {g with w:=w'} hle rfl ho' s1) rfl hx
   .exact hx.elim
  .exact hx.elim
 .exact hx.elim
def A9o(c:Cf Y)(x:Operand):Bool:=match evA c x with
 |some (.own i)=>match lkS c.sg i with
  |some (.mp _ _ _)=>true
  |_=>false
 |_=>false
def lnM(c:Cf Y)(t:TypeId)(x:Operand)(K:AV Y->Cf Y->Prop):Prop:=match Aad Y.P t,evA c x with
 |some (kt,_),some (.own i)=>match lkS c.sg i with
  |some (.mp k _ m)=>chk (Y.km kt k) (m.length<=9223372036854775807/\K (.nat m.length) c)
  |_=>False
 |_,_=>False
theorem A5i(h:RG g0 T c f g AH A){at_:Array TypeId}(hat:at_[0]?=some t)(hx:lnM c t x K):Eff g0 T f g.w (.call ⟨.builtin .len,#[x],at_⟩) K g:=by
 intro N ops R Kw os dst ty pos af next;unfold lnM at hx;split at hx
 .rename_i kt et i hm ha;split at hx
  .rename_i k e m hs;obtain⟨hkm,hb,hx⟩:=Bj hx;have hT:=Al0 (e:=e) hm hkm;obtain⟨A1,A2,ho,hin,hst,_⟩:=h.upd hs;have hv:=(h.ev ha).2;letI:Rep (den Y.D k):=RT Y.toUS k
   letI:Rep (den Y.D e):=RT Y.toUS e
   letI:DecidableEq (den Y.D k):=L2 Y k
   exact Axn ho hst hv hT hat (next _ (.nat m.length) c g AH A (Le.refl _) h ⟨rfl,hb⟩ hx)
  .exact hx.elim
 .exact hx.elim
theorem Eff.ins{w:World}{z:Operand}{k:AV Y->Cf Y->Prop}(h:Eff g0 T f w (.mapUpdate t x y z) k g):Eff g0 T f w (.insert t x y z) k g:=λN ops R K os dst ty pos af next=>h N ops R K os dst ty pos af next
end
end
section
section
variable {Y:Sys}
variable {g0 g:Gst} {AH A:Own} {c:Cf Y} {f:Fr} {v:Value}
theorem RG.Anq{T A2:Own}(h:RG g0 T c f g AH A){sg':List (Nat×Seg Y)}(hsg:SgR g sg' A2){w':World}{s:Seg Y}{A1:Own}(he:Ext g.I g.w g.I w')(hs:SR (g.new w' v) g.n s A1)(hst:St g.I w' (A1++(AH++(A2++T)))):RG g0 T {c with sg:=(c.nx,s)::sg',nx:=c.nx+1} f (g.new w' v) AH (A1++A2):=by have hle:=Le.new (v:=v) he;refine⟨by show g.n+1=c.nx+1;rw[h.n],h.le.trans hle.ext,hst.perm (Jj (List.Perm.refl _) AH).symm,h.hr.mono hle,⟨A1,A2,rfl,by show c.nx<g.n+1;rw[h.n];omega,by rw[<-h.n];exact hs,hsg.mono hle⟩,h.hs.mono hle,hle.pt h.pt,λj a hj=>(h.fr j a hj).mono hle⟩
theorem J0{w:World}{n:Nat}(hn:g.n=n):AR (Y:=Y) (g.new w v) (.own n) v:=by subst hn;exact⟨Nat.lt_succ_self _,(g.Cz _ _).symm⟩
def nwA(c:Cf Y)(T:Ty)(b:AV Y):Option (List (den Y.D T)):=match b with
 | .own j=>match lkS c.sg j with
  |some (.sl T' xs)=>match Ty.dec T' T with
   | .isTrue h=>some (h▸xs)
   | .isFalse _=>none
  |_=>none
 |b=>asD (.sl T) b
variable {T0:Own}
theorem Axr(h:RG g0 T0 c f g AH A){T:Ty}{b:AV Y}{ys:List (den Y.D T)}(hy:nwA c T b=some ys)(hb:AR g b v):@Nws _ (RT Y.toUS T) g.I g.w v ys:=by
 unfold nwA at hy;split at hy
 .split at hy
  .rename_i T' xs hs;split at hy
   .rename_i e _;subst e;cases hy;obtain⟨A1,A2,ho,hin,hst,_⟩:=h.upd hs;rw[hb.2];exact @Nws.A4p _ (RT Y.toUS T') _ _ _ _ _ _ ho hst
   .cases hy
  .cases hy
 .exact @Nws.A4o _ (RT Y.toUS T) _ _ _ _ (Aae (E2 hy hb))
def A63(c:Cf Y)(t:TypeId)(x y:Operand)(k:AV Y->Cf Y->Prop):Prop:=match slI Y.P t,Y.ty t,evA c x,evA c y with
 |some (e,nb),some (.sl T),some a,some b=>match nwA c T b with
  |some ys=>chk (slB Y.P t e (sz Y.toUS T) nb&&Nat.ble 1 nb) (match a with
   | .own i=>match lkS c.sg i with
    |some (.sl T' xs)=>match Ty.dec T' T with
     | .isTrue h=>((xs.length+ys.length)*nb<=140737488355328/\k (.own c.nx) {c.Hd with sg:=(c.nx,.sl T ((h▸xs:List (den Y.D T))++ys))::Kc c.sg i,nx:=c.nx+1})
     | .isFalse _=>False
    |_=>False
   | .val (.slice none 0 0)=>(ys.length*nb<=140737488355328/\k (.own c.nx) {c.Hd with sg:=(c.nx,.sl T ys)::c.sg,nx:=c.nx+1})
   |_=>False)
  |none=>False
 |_,_,_,_=>False
variable {t:TypeId} {k:AV Y->Cf Y->Prop}
theorem A2p(h:RG g0 T0 c f g AH A){x y:Operand}(hk:A63 c t x y k):Eff g0 T0 f g.w (.call ⟨.builtin .append,#[x,y],#[t,t]⟩) k g:=by
 intro N ops R K os dst ty pos af next;unfold A63 at hk;split at hk
 .rename_i e nb T a b h1 h2 h3 h4;split at hk
  .rename_i ys hys;obtain⟨hc,hk⟩:=Bj hk;simp only[Bool.and_eq_true,Nat.ble_eq]at hc;have hyr:@Nws _ (RT Y.toUS T) g.I g.w (ev f y) ys:=Axr h hys (h.ev h4);letI:Rep (den Y.D T):=RT Y.toUS T
   have bd:∀n,n*nb<=140737488355328->n<=9223372036854775807:=λn hn=>by have:=Nat.mul_le_mul_left n hc.2;omega
   split at hk
   .rename_i i;split at hk
    .rename_i T' xs hs;split at hk
     .rename_i e _;subst e;obtain⟨hb,hk⟩:=hk;obtain⟨A1,A2,hp,hin,ho,hsg⟩:=h.Hd.sg.take hs;have hst:=h.st.perm (Jj hp AH);refine Aj0 (α:=den Y.D T') hc.1 hst ho hyr (h.ev h3).2 rfl hb (bd _ hb) λv' A' w' e1 s1 o1=>?_;refine next v' (.own c.nx) _ (g.new w' v') AH (A'++A2) (Le.new e1) (h.Hd.Anq hsg e1 ?_ s1) (J0 h.n) hk;show OSl Y T' _ _ _ _ _;rw[g.Cz];exact o1
     .exact hk.elim
    .exact hk.elim
   .obtain⟨hb,hk⟩:=hk;have hv:ev f x=.slice none 0 0:=h.ev h3;refine Aj0 (α:=den Y.D T) (A:=[]) (xs:=[]) hc.1 (by simpa using h.st) Cc.nil hyr hv rfl (by simpa using hb) (by simpa using bd _ hb) λv' A' w' e1 s1 o1=>?_;refine next v' (.own c.nx) _ (g.new w' v') AH (A'++A) (Le.new e1) (h.Hd.Anq h.sg e1 ?_ s1) (J0 h.n) hk;show OSl Y T _ _ _ _ _;rw[g.Cz];exact o1
   .exact hk.elim
  .exact hk.elim
 .exact hk.elim
def mkX(c:Cf Y)(t:TypeId)(x y:Operand)(k:AV Y->Cf Y->Prop):Prop:=match slI Y.P t,Y.ty t,evA c x,evA c y with
 |some (e,nb),some (.sl T),some a,some b=>match asInt a,asInt b,zro Y.P e with
  |some (.i64,n),some (.i64,m),some z=>match Adx (Y:=Y) T z with
   |some zd=>chk (slB Y.P t e (sz Y.toUS T) nb&&Nat.ble 1 nb) (R6 x a (R6 y b (match x with
    | .const (.int .i64 0)=>0<=m/\nb*m.toNat<=281474976710656/\k (.own c.nx) {c with sg:=(c.nx,.sl T [])::c.sg,nx:=c.nx+1}
    |_=>0<=n/\m=n/\n.toNat*nb<=281474976710656/\k (.own c.nx) {c with sg:=(c.nx,.sl T (List.replicate n.toNat zd))::c.sg,nx:=c.nx+1})))
   |none=>False
  |_,_,_=>False
 |_,_,_,_=>False
theorem A5b(h:RG g0 T0 c f g AH A){x y:Operand}(hk:mkX c t x y k):Eff g0 T0 f g.w (.makeSlice t x y) k g:=by
 intro N ops R K os dst ty pos af next;unfold mkX at hk;split at hk
 .rename_i e nb T a b h1 h2 h3 h4;split at hk
  .rename_i n m z hn hm hz;split at hk
   .rename_i zd hzd;obtain⟨hc,hk⟩:=Bj hk;simp only[Bool.and_eq_true,Nat.ble_eq]at hc;have hk:=Jf (h.ev h4) (Jf (h.ev h3) hk);letI:Rep (den Y.D T):=RT Y.toUS T
    have hx:=Jq hn (h.ev h3);have hy:=Jq hm (h.ev h4);split at hk
    .obtain⟨hm0,hb,hk⟩:=hk;have hb1:m.toNat<=9223372036854775807:=by have:=Nat.mul_le_mul_right m.toNat hc.2;omega
     refine A03 (α:=den Y.D T) (n:=m.toNat) hc.1 h.st rfl hy (Int.toNat_of_nonneg hm0).symm hb1 hb λv A' w' e1 s1 o1=>?_;refine next v (.own c.nx) _ (g.new w' v) AH (A'++A) (Le.new e1) (h.Anq h.sg e1 ?_ s1) (J0 h.n) hk;show OSl Y T _ _ _ _ _;rw[g.Cz];exact o1
    .obtain⟨hn0,hmn,hb,hk⟩:=hk;have hb1:n.toNat<=9223372036854775807:=by have:=Nat.mul_le_mul_left n.toNat hc.2;omega
     refine A02 (α:=den Y.D T) (n:=n.toNat) (zd:=zd) hc.1 h.st hx hy (Int.toNat_of_nonneg hn0).symm (hmn.trans (Int.toNat_of_nonneg hn0).symm) hz (λI w=>Ya hzd) hb hb1 λv A' w' e1 s1 o1=>?_;refine next v (.own c.nx) _ (g.new w' v) AH (A'++A) (Le.new e1) (h.Anq h.sg e1 ?_ s1) (J0 h.n) hk;show OSl Y T _ _ _ _ _;rw[g.Cz];exact o1
   .exact hk.elim
  .exact hk.elim
 .exact hk.elim
def A1z(c:Cf Y)(T:Ty):Nat->List (Nat×Operand)->Option (List (den Y.D T))
 |_,[]=>some []
 |n,(i,x)::l=>match Nat.beq i n,(evA c x).bind (asD T),A1z c T (n+1) l with
  |true,some d,some m=>some (d::m)
  |_,_,_=>none
theorem As9{g0 g:Gst}{T0 AH A:Own}{c:Cf Y}{f:Fr}(h:RG g0 T0 c f g AH A){T:Ty}:∀{l:List (Nat×Operand)}{n:Nat}{m:List (den Y.D T)},A1z c T n l=some m->∃vs,(l.map λp=>(p.1,ev f p.2))=enum n vs/\@Apu _ (RT Y.toUS T) g.I g.w vs m
 | [],n,m,hm=>by cases hm;exact⟨[],rfl,trivial⟩
 |(i,x)::l,n,m,hm=>by
  unfold A1z at hm;split at hm
  .rename_i d m' h1 h2 h3;cases hm;obtain⟨vs,h4,h5⟩:=As9 h h3;obtain rfl:i=n:=by simpa using h1
   cases ha:evA c x with
   |none=>rw[ha]at h2;cases h2
   |some a=>
    rw[ha]at h2;exact⟨ev f x::vs,by rw[List.map_cons,h4];rfl,E2 h2 (h.ev ha),h5⟩
  .cases hm
def A6u(c:Cf Y)(t:TypeId)(n:Nat)(ps:Array (Nat×Operand))(k:AV Y->Cf Y->Prop):Prop:=match slI Y.P t,Y.ty t with
 |some (e,nb),some (.sl T)=>match A1z c T 0 ps.toList with
  |some xs=>chk (slB Y.P t e (sz Y.toUS T) nb&&Nat.ble (ps.toList.length*sz Y.toUS T) 16777216&&Nat.beq ps.toList.length n) (k (.own c.nx) {c with sg:=(c.nx,.sl T xs)::c.sg,nx:=c.nx+1})
  |none=>False
 |_,_=>False
theorem A2i(h:RG g0 T0 c f g AH A){n:Nat}{ps:Array (Nat×Operand)}(hk:A6u c t n ps k):Eff g0 T0 f g.w (.buildSlice t n ps) k g:=by
 intro N ops R K os dst ty pos af next;unfold A6u at hk;split at hk
 .rename_i e nb T h1 h2;split at hk
  .rename_i xs hxs;obtain⟨hc,hk⟩:=Bj hk;simp only[Bool.and_eq_true,Nat.ble_eq,Nat.beq_eq]at hc;obtain⟨vs,h3,h4⟩:=As9 h hxs;letI:Rep (den Y.D T):=RT Y.toUS T
   have hl:=(Apu.get (α:=den Y.D T) h4).1;have hlv:ps.toList.length=vs.length:=by
    have:=congrArg List.length h3;have h5:∀(vs:List Value)n,(enum n vs).length=vs.length:=by
     intro vs;induction vs with
     |nil=>intro n;rfl
     |cons v vs ih=>intro n;simp [enum,ih]
    rw[h5,List.length_map]at this;exact this
   refine Axq (α:=den Y.D T) hc.1.1 h.st h3 h4 (by rw[Nat.ble_eq,<-hl,<-hlv];exact hc.1.2) (by rw[<-hl,<-hlv];exact hc.2) λv A' w' e1 s1 o1=>?_;refine next v (.own c.nx) _ (g.new w' v) AH (A'++A) (Le.new e1) (h.Anq h.sg e1 ?_ s1) (J0 h.n) hk;show OSl Y T _ _ _ _ _;rw[g.Cz];exact o1
  .exact hk.elim
 .exact hk.elim
end
end
section
section
variable {Y:Sys}
def Z3(f:Fr)(o:Option Operand)(n d:Nat):Prop:=match o with
 |none=>n=d
 |some y=>∃kd,ev f y=.int kd (n:Int)
variable {P:Program} {w:World}
theorem Es{kd:IntKind}{n y:Nat}{code:BoundsCode}(h:n<=y):(Instr.sliceBound (.int kd (n:Int)) y code).run P w=.ok n w:=by
 have hc:(0:Int)<=n/\(n:Int)<=y:=by omega
 simp [Instr.sliceBound,asIntOf,hc]
variable {f:Fr}
theorem Aet{b:Bool}{len cap lo hi mx:Nat}{low high max:Option Operand}(h1:Z3 f low lo 0)(h2:Z3 f high hi len)(h3:Z3 f max mx cap)(h4:lo<=hi)(h5:hi<=mx)(h6:mx<=cap)(h7:high=none->max=none):(Instr.sliceBounds b len cap (low.map (ev f)) (high.map (ev f)) (max.map (ev f))).run P w=.ok (lo,hi,mx) w:=by
 cases max with
 |none=>
  have hm:mx=cap:=h3;subst hm;cases high with
  |none=>
   have hh:hi=len:=h2;subst hh;cases low with
   |none=>have hl:lo=0:=h1;subst hl;simp [Instr.sliceBounds]
   |some y=>obtain⟨kd,hy⟩:=h1;simp [Instr.sliceBounds,hy,Es h4]
  |some z=>
   obtain⟨kz,hz⟩:=h2;cases low with
   |none=>have hl:lo=0:=h1;subst hl;simp [Instr.sliceBounds,hz,Es h5]
   |some y=>obtain⟨kd,hy⟩:=h1;simp [Instr.sliceBounds,hy,hz,Es h4,Es h5]
 |some u=>
  obtain⟨ku,hu⟩:=h3;cases high with
  |none=>exact absurd (h7 rfl) (by simp)
  |some z=>
   obtain⟨kz,hz⟩:=h2;cases low with
   |none=>have hl:lo=0:=h1;subst hl;simp [Instr.sliceBounds,hz,hu,Es h5,Es h6]
   |some y=>obtain⟨kd,hy⟩:=h1;simp [Instr.sliceBounds,hy,hz,hu,Es h4,Es h5,Es h6]
variable {x:Operand} {t:TypeId}
theorem Xp{e ty:TypeId}{sz nb:Nat}{a:Option Addr}{len cap lo hi mx:Nat}{low high max:Option Operand}(ht:slB P t e sz nb=true)(hx:ev f x=.slice a len cap)(h1:Z3 f low lo 0)(h2:Z3 f high hi len)(h3:Z3 f max mx cap)(h4:lo<=hi)(h5:hi<=mx)(h6:mx<=cap)(h7:high=none->max=none):Yld P f (.slice t x low high max) ty (.slice (if mx=lo then a else a.map (·.add (lo*sz))) (hi-lo) (mx-lo)) w:=λdst pos af gd=>by
 have hs:=Hy ht;have:=Aet (P:=P) (w:=w) (b:=true) h1 h2 h3 h4 h5 h6 h7;have hsl:(Instr.slice t (.slice a len cap) (low.map (ev f)) (high.map (ev f)) (max.map (ev f))).run P w=.ok (.slice (if mx=lo then a else a.map (·.add (lo*sz))) (hi-lo) (mx-lo)) w:=by simp only[Instr.slice,Sem.run_bind,run_underlying hs.under,Result.andThen_ok,this,hs.size,Sem.run_pure]
 simp only[execOp,Instr.sliceAt,hx,Sem.run_bind,run_underlying hs.under,Result.andThen_ok,hsl,Sem.run_pure]
def A1a(mx:Option Operand)(a b:Nat):Nat:=match mx with
 |none=>a
 |some _=>b
def Api(c:Cf Y)(o:Option Operand)(d:Nat)(k:Nat->Prop):Prop:=match o with
 |none=>k d
 |some y=>match evA c y with
  |some (.nat j)=>k j
  |some a=>match asInt a with
   |some (_,n)=>R6 y a (0<=n/\k n.toNat)
   |none=>False
  |none=>False
variable {g0 g:Gst} {AH A:Own} {c:Cf Y}
theorem Yc{T:Own}(h:RG g0 T c f g AH A){o:Option Operand}{d:Nat}{k:Nat->Prop}(hk:Api c o d k):∃n,Z3 f o n d/\k n:=by
 unfold Api at hk;split at hk
 .exact⟨d,rfl,hk⟩
 .split at hk
  .rename_i y j ha;exact⟨j,⟨_,(h.ev ha).1⟩,hk⟩
  .rename_i y _ a _ ha;split at hk
   .rename_i kd n hn;obtain⟨h0,hk⟩:=Jf (h.ev ha) hk;exact⟨n.toNat,⟨kd,by rw[Jq hn (h.ev ha),Int.toNat_of_nonneg h0]⟩,hk⟩
   .exact hk.elim
  .exact hk.elim
def glo(x:Operand)(lo hi mx:Option Operand):Option Nat:=match x,lo,hi,mx with
 | .global g,none,none,none=>some g
 |_,_,_,_=>none
variable {lo hi mx:Option Operand}
theorem A51{g:Nat}(h:glo x lo hi mx=some g):x=.global g/\lo=none/\hi=none/\mx=none:=by
 unfold glo at h;split at h
 .cases h;exact⟨rfl,rfl,rfl,rfl⟩
 .cases h
def arG(P:Program)(t:TypeId)(n:Nat):Bool:=match P.underlying t with
 |some (.array m e)=>Nat.beq m n&&(P.info? e).isSome
 |_=>false
theorem A0a{ty:TypeId}{g n:Nat}(h:arG P t n=true):Yld P f (.slice t (.global g) none none none) ty (.slice (some ⟨g,0,none⟩) n n) w:=λdst pos af gd=>by
 unfold arG at h;split at h
 .rename_i m e hu;rw[Bool.and_eq_true]at h;obtain rfl:=Nat.eq_of_beq_eq_true h.1;obtain⟨i,hi⟩:=Option.isSome_iff_exists.1 h.2;simp [execOp,Instr.sliceAt,run_underlying hu,ev,Instr.sureAddr,Instr.sliceBounds,sizeOf,typeInfo,hi,Addr.add]
 .cases h
def glX(c:Cf Y)(t:TypeId)(g:Nat)(k:AV Y->Cf Y->Prop):Prop:=match Y.gls g with
 |some q=>chk (arG Y.P t q.2.length) (k (.dat (.sl q.1) q.2) c)
 |none=>False
variable {T0:Own} {k:AV Y->Cf Y->Prop}
theorem A53(h:RG g0 T0 c f g AH A){v:Nat}(hk:glX c t v k):Eff g0 T0 f g.w (.slice t (.global v) none none none) k g:=by
 intro N ops R K os dst ty pos af next;unfold glX at hk;split at hk
 .rename_i q hq;obtain⟨hc,hk⟩:=Bj hk;have hg:(HK' Y).gl g.I g.w:=by
   have h1:=h.hr;unfold HR at h1;split at h1
   .obtain⟨L,_,h2⟩:=h1.ex;exact h2.gl
   .obtain⟨L,_,h2⟩:=h1.1.ex;exact h2.gl
  exact Ax (A0a hc dst pos af none) (next _ (.dat (.sl q.1) q.2) c g AH A (Le.refl _) h (hg v q hq) hk)
 .exact hk.elim
def A32(c:Cf Y)(t:TypeId)(x:Operand)(lo hi mx:Option Operand)(k:AV Y->Cf Y->Prop):Prop:=match slI Y.P t,evA c x with
 |some (e,nb),some (.dat (.sl T) xs)=>chk (slB Y.P t e (sz Y.toUS T) nb&&(hi.isSome ||mx.isNone)) (Api c lo 0 λl=>Api c hi xs.length λh=>match mx with
  |none=>l<=h/\h<=xs.length/\k (.dat (.sl T) ((xs.drop l).take (h-l))) c
  |some _=>Api c mx 0 λm=>l<=h/\h<=m/\m<=xs.length/\k (.dat (.sl T) ((xs.drop l).take (h-l))) c)
 |some (e,nb),some (.own i)=>match lkS c.sg i with
  |some (.sl T xs)=>chk (slB Y.P t e (sz Y.toUS T) nb&&(hi.isSome ||mx.isNone)) (match lo,hi with
   |none,some _=>Api c hi 0 λh=>match mx with
    |none=>h<=xs.length/\k (.own c.nx) {c.Hd with sg:=(c.nx,.sl T (xs.take h))::Kc c.sg i,nx:=c.nx+1}
    |some _=>Api c mx 0 λm=>h<=m/\m<=xs.length/\k (.own c.nx) {c.Hd with sg:=(c.nx,.sl T (xs.take h))::Kc c.sg i,nx:=c.nx+1}
   |some _,none=>Api c lo 0 λl=>l<=xs.length/\k (.sub i T l) c
   |none,none=>k (.own i) c
   |_,_=>False)
  |_=>False
 |_,_=>False
theorem U5{T:Ty}{I:Reg}{v:Value}{xs:List (den Y.D T)}(ho:OSl Y T I w A v xs){h m:Nat}(hh:h<=xs.length)(hm:h<=m):∃a cap,v=.slice a xs.length cap/\xs.length<=cap/\(m<=cap->OSl Y T I w A (.slice (if m=0 then a else a.map (·.add (0*sz Y.toUS T))) (h-0) (m-0)) (xs.take h)):=by
 letI:Rep (den Y.D T):=RT Y.toUS T
 have hadd:∀(a:Option Addr),a.map (λx:Addr=>x.add (0*sz Y.toUS T))=a:=λa=>by cases a<;>simp [Addr.add]
 rcases Cc.ex (α:=den Y.D T) ho with ⟨rfl,rfl,rfl⟩|⟨b,arr,cap,e0,off,rfl,rfl,h3,h4,h5,h6⟩
 .refine⟨none,0,rfl,Nat.le_refl _,λhc=>?_⟩;obtain rfl:m=0:=by omega
  obtain rfl:h=0:=by omega
  exact⟨.inl ⟨rfl,rfl,rfl⟩⟩
 .refine⟨_,cap,rfl,h3,λhc=>⟨.inr ⟨b,arr,m,e0,off,rfl,?_,?_,by omega,?_,?_⟩⟩⟩
  .have hl:(xs.take h).length=h:=by simp;omega
   rw[hl,hadd];split<;>simp
  .simp;omega
  .exact Nat.le_trans (Nat.add_le_add_left (Nat.mul_le_mul_right _ hc) _) h5
  .intro j hj;have hj':j<xs.length:=by simp at hj;omega
   obtain⟨u,h7,h8⟩:=h6 j hj';exact⟨u,by rw[List.getElem_take];exact h7,h8⟩
theorem A0k(h:RG g0 T0 c f g AH A)(hk:A32 c t x lo hi mx k):Eff g0 T0 f g.w (.slice t x lo hi mx) k g:=by
 intro N ops R K os dst ty pos af next;unfold A32 at hk;split at hk
 .rename_i e nb T xs h1 h2;replace hk:=Bj hk;obtain⟨hc,hk⟩:=hk;simp only[Bool.and_eq_true,Bool.or_eq_true,Option.isSome_iff_ne_none,Option.isNone_iff_eq_none]at hc;have h7:hi=none->mx=none:=λh=>hc.2.elim (λh'=>absurd h h') id;letI:Rep (den Y.D T):=RT Y.toUS T
  obtain⟨a,cap,hv,hl1,hl2,hp⟩:=Anr (Aae (h.ev h2));obtain⟨l,hl,hk⟩:=Yc h hk;obtain⟨hh,hhi,hk⟩:=Yc h hk;have fin:∀m,Z3 f mx m cap->l<=hh->hh<=m->hh<=xs.length->m<=cap->k (.dat (.sl T) ((xs.drop l).take (hh-l))) c->WL Y.P N ops R false K (⟨dst,.slice t x lo hi mx,ty,pos,af,none⟩::os) f g.w:=λm hm h3 h4 h5 h6 hk=>by refine Ax (Xp hc.1 hv hl hhi hm h3 h4 h6 h7 dst pos af none) ?_;exact next _ (.dat (.sl T) ((xs.drop l).take (hh-l))) c g AH A (Le.refl _) h (Zy (hp l hh m h3 h5 h4 h6)) hk
  split at hk
  .obtain⟨h3,h4,hk⟩:=hk;exact fin cap rfl h3 (by omega) h4 (Nat.le_refl _) hk
  .obtain⟨m,hm,h3,h4,h5,hk⟩:=Yc h hk;exact fin m (by exact hm) h3 h4 (by omega) (by omega) hk
 .rename_i e nb i h1 h2;split at hk
  .rename_i T xs hs;replace hk:=Bj hk;obtain⟨hc,hk⟩:=hk;simp only[Bool.and_eq_true,Bool.or_eq_true,Option.isSome_iff_ne_none,Option.isNone_iff_eq_none]at hc;have h7:hi=none->mx=none:=λh=>hc.2.elim (λh'=>absurd h h') id;have hv:=(h.ev h2).2;split at hk
   .rename_i _ _;obtain⟨hh,hhi,hk⟩:=Yc h hk;obtain⟨A1,A2,hp,hin,ho,hsg⟩:=h.Hd.sg.take hs;have hst:=h.st.perm (Jj hp AH);have fin:∀m,hh<=m->hh<=xs.length->(∀cap,xs.length<=cap->Z3 f mx (A1a mx cap m) cap/\A1a mx cap m<=cap/\hh<=A1a mx cap m)->k (.own c.nx) {c.Hd with sg:=(c.nx,.sl T (xs.take hh))::Kc c.sg i,nx:=c.nx+1}->WL Y.P N ops R false K (⟨dst,.slice t x none (some _) mx,ty,pos,af,none⟩::os) f g.w:=λm h3 h4 h5 hk=>by obtain⟨a,cap,e1,e2,_⟩:=U5 (h:=0) (m:=0) ho (Nat.zero_le _) (Nat.le_refl _);obtain⟨h8,hmcap,hmc⟩:=h5 cap e2;obtain⟨a',cap',e1',e2',e3'⟩:=U5 (m:=A1a mx cap m) ho h4 hmc;rw[e1]at e1';cases e1';refine Ax (Xp hc.1 (hv.trans e1) (show Z3 f none 0 0 from rfl) hhi h8 (Nat.zero_le _) hmc hmcap h7 dst pos af none) ?_;refine next _ (.own c.nx) _ (g.new g.w _) AH (A1++A2) (Le.new (Ext.refl _ _)) (h.Hd.Anq hsg (Ext.refl _ _) ?_ hst) (J0 h.n) hk;show OSl Y T _ _ _ _ _;rw[g.Cz];exact e3' hmcap
    split at hk
    .exact fin hh (Nat.le_refl _) hk.1 (λcap h5=>⟨rfl,Nat.le_refl _,Nat.le_trans hk.1 h5⟩) hk.2
    .obtain⟨m,hm,h3,h4,hk⟩:=Yc h hk;exact fin m h3 (by omega) (λcap h5=>⟨hm,by show m<=cap;omega,h3⟩) hk
   .obtain⟨l,hl,h3,hk⟩:=Yc h hk;obtain⟨A1,A2,hp,hin,ho,hsg⟩:=h.sg.take hs;obtain⟨a,cap,e1,e2,_⟩:=U5 (h:=0) (m:=0) ho (Nat.zero_le _) (Nat.le_refl _);obtain rfl:mx=none:=h7 rfl;refine Ax (Xp (lo:=l) (hi:=xs.length) (mx:=cap) hc.1 (hv.trans e1) hl (show Z3 f none xs.length xs.length from rfl) (show Z3 f none cap cap from rfl) h3 e2 (Nat.le_refl _) h7 dst pos af none) ?_;exact next _ (.sub i T l) c g AH A (Le.refl _) h ⟨hin,by rw[e1];rfl,a,_,cap,e1,h3⟩ hk
   .obtain rfl:mx=none:=h7 rfl;obtain⟨A1,A2,hp,hin,ho,hsg⟩:=h.sg.take hs;obtain⟨a,cap,e1,e2,_⟩:=U5 (h:=0) (m:=0) ho (Nat.zero_le _) (Nat.le_refl _);refine Ax (Xp (lo:=0) (hi:=xs.length) (mx:=cap) hc.1 (hv.trans e1) (show Z3 f none 0 0 from rfl) (show Z3 f none xs.length xs.length from rfl) (show Z3 f none cap cap from rfl) (Nat.zero_le _) e2 (Nat.le_refl _) h7 dst pos af none) ?_;refine next _ (.own i) c g AH A (Le.refl _) h ⟨hin,?_⟩ hk;rw[e1];cases a<;>simp [Addr.add]
   .exact hk.elim
  .exact hk.elim
 .exact hk.elim
def slX(c:Cf Y)(t:TypeId)(x:Operand)(lo hi mx:Option Operand)(k:AV Y->Cf Y->Prop):Prop:=match glo x lo hi mx with
 |some g=>glX c t g k
 |none=>A32 c t x lo hi mx k
theorem A31(h:RG g0 T0 c f g AH A)(hk:slX c t x lo hi mx k):Eff g0 T0 f g.w (.slice t x lo hi mx) k g:=by
 unfold slX at hk;split at hk
 .rename_i v hv;obtain⟨rfl,rfl,rfl,rfl⟩:=A51 hv;exact A53 h hk
 .exact A0k h hk
def evL(c:Cf Y):List Operand->Option (List (AV Y))
 | []=>some []
 |x::l=>match evA c x,evL c l with
  |some a,some m=>some (a::m)
  |_,_=>none
theorem Xb{g0 g:Gst}{T AH A:Own}{c:Cf Y}{f:Fr}(h:RG g0 T c f g AH A):∀{l:List Operand}{m:List (AV Y)},evL c l=some m->F2 (AR g) m (l.map (ev f))
 | [],m,hm=>by cases hm;exact .nil
 |x::l,m,hm=>by
  unfold evL at hm;split at hm
  .rename_i a m' h1 h2;cases hm;exact .cons (h.ev h1) (Xb h h2)
  .cases hm
def mfX(c:Cf Y)(q:Fn)(fs cs:Array Operand)(k:AV Y->Cf Y->Prop):Prop:=match q,evL c fs.toList,evL c cs.toList with
 | .func g,some l,some m=>k (.own c.nx) {c with sg:=(c.nx,.clo g l m)::c.sg,nx:=c.nx+1}
 |_,_,_=>False
theorem A5e(h:RG g0 T0 c f g AH A){q:Fn}{fs cs:Array Operand}(hk:mfX c q fs cs k):Eff g0 T0 f g.w (.makeFunc q fs cs) k g:=by
 intro N ops R K os dst ty pos af next;unfold mfX at hk;split at hk
 .rename_i q l m h1 h2;refine Agk rfl rfl ?_;have hle:=Le.new (g:=g) (v:=.func (.func q) ⟨fs.toList.map (ev f)⟩ ⟨cs.toList.map (ev f)⟩) (Ext.refl g.I g.w);refine next _ (.own c.nx) _ (g.new g.w _) AH ([]++A) hle (h.Anq (A1:=[]) h.sg (Ext.refl _ _) ?_ h.st) (J0 h.n) hk;exact⟨rfl,_,_,g.Cz _ _,(Xb h h1).mono λ_ _ r=>r.mono hle,(Xb h h2).mono λ_ _ r=>r.mono hle⟩
 .exact hk.elim
end
end
end Go.Y
