/-
  The Y layer, part q4: ranges over maps: the statement. (Merged by program out of 3 texts.)
-/
import Derived.Test.YtcbkbpjlbmalmaaGreatDoorpai
namespace Go.Y
open Go Go.RowKit Go.X
section
section
variable {Y:Sys}
def nmA(n:Nat):AV Y->Prop
 | .own i | .adr i _ | .el i _ _ _ | .ptr i _ | .hp i _ _ | .sub i _ _=>i<n
 |_=>True
variable {g:Gst}
theorem AR.nm{a:AV Y}{v:Value}(h:AR g a v):nmA g.n a:=by cases a<;>first|exact h.1|exact trivial
theorem AR.chg{g':Gst}{n:Nat}(hI:g'.I=g.I)(hw:g'.w=g.w)(hn:n<=g'.n)(hμ:∀i,i<n->g'.μ i=g.μ i){a:AV Y}{v:Value}(hm:nmA n a)(h:AR g a v):AR g' a v:=by
 cases a with
 |dat t x=>show rp _ _ _ _ _ _;rw[hI,hw];exact h
 |nat j=>exact h
 |prp p d=>exact h
 |own i=>exact⟨Nat.lt_of_lt_of_le hm hn,by rw[hμ i hm];exact h.2⟩
 |adr i o=>exact⟨Nat.lt_of_lt_of_le hm hn,by rw[hμ i hm];exact h.2⟩
 |el i t j o=>exact⟨Nat.lt_of_lt_of_le hm hn,by rw[hμ i hm];exact h.2⟩
 |del t x o=>obtain⟨b,off,u,h1,h2,h3,h4⟩:=h;exact⟨b,off,u,by rw[hI,hw];exact h1,by rw[hw];exact h2,by rw[hI];exact h3,h4⟩
 |ptr i p=>exact⟨Nat.lt_of_lt_of_le hm hn,by rw[hμ i hm];exact h.2⟩
 |hp i b o=>exact⟨Nat.lt_of_lt_of_le hm hn,by rw[hμ i hm];exact h.2⟩
 |mob b=>exact h
 |sub i T lo=>exact⟨Nat.lt_of_lt_of_le hm hn,by rw[hμ i hm];exact h.2⟩
 |val u=>exact h
 |ifc t T x=>obtain⟨u,h1,h2⟩:=h;exact⟨u,h1,by rw[hI,hw];exact h2⟩
 |fn as rs F=>show FvR _ _ _ _ _ _ _;rw[hI,hw];exact h
 |fbx as rs F=>show FbR _ _ _ _ _ _ _;rw[hI,hw];exact h
def nmS(n:Nat):Seg Y->Prop
 | .blk cs | .ag cs=>∀a∈cs,nmA n a
 | .tp l=>∀a∈l,nmA n a
 | .clo _ l m=>(∀a∈l,nmA n a)/\∀a∈m,nmA n a
 | .sl _ _ | .mp _ _ _=>True
theorem F2.nm{R:Value->Prop}{l:List (AV Y)}{m:List Value}(h:F2 (λa v=>AR g a v/\R v) l m):∀a∈l,nmA g.n a:=λa ha=>by obtain⟨v,_,hv⟩:=h.mem a ha;exact hv.1.nm
theorem F2.nm'{l:List (AV Y)}{m:List Value}(h:F2 (AR g) l m):∀a∈l,nmA g.n a:=λa ha=>by obtain⟨v,_,hv⟩:=h.mem a ha;exact hv.nm
variable {A:Own}
theorem SR.nm{i:Nat}{s:Seg Y}(h:SR g i s A):nmS g.n s:=by
 cases s with
 |blk cs=>obtain⟨b,arr,e,h1,h2,h3⟩:=h;exact h3.nm
 |sl t xs=>exact trivial
 |mp k e m=>exact trivial
 |tp l=>obtain⟨h1,vs,h2,h3⟩:=h;exact h3.nm'
 |ag l=>obtain⟨h1,vs,h2,h3⟩:=h;exact h3.nm
 |clo q l m=>obtain⟨h1,vs,us,h2,h3,h4⟩:=h;exact⟨h3.nm',h4.nm'⟩
theorem F2.Ax0{α β:Type}{R:α->β->Prop}{Q:α->Prop}{l:List α}{m:List β}(h:F2 R l m)(hq:∀a∈l,Q a):F2 (λa b=>Q a/\R a b) l m:=by
 induction h with
 |nil=>exact .nil
 |cons h _ ih=>exact .cons ⟨hq _ List.mem_cons_self,h⟩ (ih λa ha=>hq a (List.mem_cons_of_mem _ ha))
theorem SR.chg{g':Gst}{n i:Nat}(hi:i<n)(hI:g'.I=g.I)(hw:g'.w=g.w)(hn:n<=g'.n)(hμ:∀i,i<n->g'.μ i=g.μ i){s:Seg Y}(hm:nmS n s)(h:SR g i s A):SR g' i s A:=by
 cases s with
 |blk cs=>obtain⟨b,arr,e,h1,h2,h3⟩:=h;exact⟨b,arr,e,h1,by rw[hμ i hi];exact h2,(h3.Ax0 hm).mono λ_ _ r=>⟨r.2.1.chg hI hw hn hμ r.1,r.2.2⟩⟩
 |sl t xs=>show OSl _ _ _ _ _ _ _;rw[hI,hw,hμ i hi];exact h
 |mp k e m=>show OMp _ _ _ _ _ _ _ _;rw[hI,hw,hμ i hi];exact h
 |tp l=>obtain⟨h1,vs,h2,h3⟩:=h;exact⟨h1,vs,by rw[hμ i hi];exact h2,(h3.Ax0 hm).mono λ_ _ r=>r.2.chg hI hw hn hμ r.1⟩
 |ag l=>obtain⟨h1,vs,h2,h3⟩:=h;exact⟨h1,vs,by rw[hμ i hi];exact h2,(h3.Ax0 hm).mono λ_ _ r=>⟨r.2.1.chg hI hw hn hμ r.1,r.2.2⟩⟩
 |clo q l m=>obtain⟨h1,vs,us,h2,h3,h4⟩:=h;exact⟨h1,vs,us,by rw[hμ i hi];exact h2,(h3.Ax0 hm.1).mono λ_ _ r=>r.2.chg hI hw hn hμ r.1,(h4.Ax0 hm.2).mono λ_ _ r=>r.2.chg hI hw hn hμ r.1⟩
def Aka:List (Nat×Seg Y)->List (Nat×Seg Y)->Prop
 | [],_=>True
 |p::ks,sg=>lkS sg p.1=some p.2/\Aka ks (Kc sg p.1)
theorem Ag2{g:Gst}:∀{ks sg:List (Nat×Seg Y)}{A:Own},SgR g sg A->Aka ks sg->∃A1 A2,A.Perm (A1++A2)/\SgR g ks A1
 | [],sg,A,_,_=>⟨[],A,by simp,rfl⟩
 |p::ks,sg,A,h,⟨h1,h2⟩=>by obtain⟨A1,A2,k1,k2,k3,k4⟩:=h.take h1;obtain⟨B1,B2,k5,k6⟩:=Ag2 k4 h2;exact⟨A1++B1,B2,k1.trans (by rw[List.append_assoc];exact k5.append_left A1),A1,B1,rfl,k2,k3,k6⟩
theorem SgR.chg{g0 g g':Gst}(hI:g'.I=g.I)(hw:g'.w=g.w)(hn:g0.n<=g'.n)(hμ:∀i,i<g0.n->g'.μ i=g.μ i):∀{ks:List (Nat×Seg Y)}{A A0:Own},SgR g0 ks A0->SgR g ks A->SgR g' ks A
 | [],_,_,_,h=>h
 |_::_,_,_,⟨_,_,_,h2,h3,h4⟩,⟨B1,B2,k1,_,k3,k4⟩=>⟨B1,B2,k1,Nat.lt_of_lt_of_le h2 hn,k3.chg h2 hI hw hn hμ h3.nm,SgR.chg hI hw hn hμ h4 k4⟩
def hdK(c:Cf Y)(ks:List (Nat×Seg Y))(la:LA)(x:VT Y la.vars)(H:HH Y):Cf Y:={hdC c la x H with sg:=(hdC c la x H).sg++ks,op:=c.op}
def Atj(op:Option (Opn Y))(ks:List (Nat×Seg Y))(la:LA)(c':Cf Y)(K:VT Y la.vars->HH Y->Prop):Prop:=match Aqy (Nx c' la.vars).fr la.vars (Nx c' la.vars).sg,op,(Nx c' la.vars).op with
 |some r,none,none=>Aka ks r.2/\K r.1 (Nx c' la.vars).H
 |some r,some o,some o'=>o'=o/\Aka ks r.2/\K r.1 (Nx c' la.vars).H
 |_,_,_=>False
def Apf(op:Option (Opn Y))(ks:List (Nat×Seg Y))(la:LA)(c':Cf Y)(K:VT Y la.vars->HH Y->Prop):Prop:=match op with
 |none=>cls c' λc'=>Atj none ks la c' K
 |some o=>Atj (some o) ks la c' K
theorem Ati{g0:Gst}{T AH:Own}{c:Cf Y}{f:Fr}{op:Option (Opn Y)}{ks:List (Nat×Seg Y)}{la:LA}(h:RG g0 T c f g AH A){K:VT Y la.vars->HH Y->Prop}(hk:Apf op ks la c K):∃g1 x H AH1 A1 A2,g1.w=g.w/\Le g g1/\K x H/\VTR g1.I g1.w f la.vars x A1/\SgR g1 ks A2/\St g1.I g1.w (AH1++((A1++A2)++T))/\HR g1 H [] AH1 op:=by
 have key:∀{c1:Cf Y}{gg:Gst}{AH1 A0:Own},RG g0 T c1 f gg AH1 A0->Atj op ks la c1 K->∃g1 x H A1 A2,g1.w=gg.w/\Le gg g1/\K x H/\VTR g1.I g1.w f la.vars x A1/\SgR g1 ks A2/\St g1.I g1.w (AH1++((A1++A2)++T))/\HR g1 H [] AH1 op:=λ{c1 gg AH1 A0}h1 hk1=>by
  obtain⟨g1,A',e1,e2,h3⟩:=Ab8 la.vars h1;unfold Atj at hk1;have fin:∀{r},Aqy (Nx c1 la.vars).fr la.vars (Nx c1 la.vars).sg=some r->(Nx c1 la.vars).op=op->Aka ks r.2->K r.1 (Nx c1 la.vars).H->∃g1 x H A1 A2,g1.w=gg.w/\Le gg g1/\K x H/\VTR g1.I g1.w f la.vars x A1/\SgR g1 ks A2/\St g1.I g1.w (AH1++((A1++A2)++T))/\HR g1 H [] AH1 op:=λ{r}hr ho hp hK=>by
   obtain⟨A1,A2,h4,h5,h6⟩:=Amb h3.fr hr h3.sg;obtain⟨B1,B2,h7,h8⟩:=Ag2 h6 hp;have hH:=h3.hr;rw[ho]at hH;refine⟨g1,r.1,_,A1,B1,e1,e2,hK,h5,h8,?_,HR.mono (Le.refl _) hH⟩;have hst:=h3.st.perm (((h4.trans (h7.append_left A1)).append_right T).append_left AH1);have:St g1.I g1.w ((AH1++(A1++B1))++(B2++T)):=by simpa [List.append_assoc] using hst
   simpa [List.append_assoc] using Fv this
  split at hk1
  .rename_i r hr hop;exact fin hr hop hk1.1 hk1.2
  .rename_i r o o' hr hop;obtain⟨rfl,hp,hK⟩:=hk1;exact fin hr hop hp hK
  .exact hk1.elim
 unfold Apf at hk;split at hk
 .obtain⟨c1,g1,AH1,A1,hk,hw,hle,hr,_⟩:=Fi h hk;obtain⟨g2,x,H,B1,B2,k1,k2,k3⟩:=key hr hk;exact⟨g2,x,H,AH1,B1,B2,k1.trans hw,hle.trans k2,k3⟩
 .obtain⟨g2,x,H,B1,B2,k1,k2,k3⟩:=key h hk;exact⟨g2,x,H,AH,B1,B2,k1,k2,k3⟩
theorem Ayj{g0 g1:Gst}{T AH AH1 A1 A2 A0:Own}{c:Cf Y}{f f1:Fr}(h:RG g0 T c f g AH A){la:LA}{ks:List (Nat×Seg Y)}(hk0:SgR g ks A0)(hle:Ext g.I g.w g1.I g1.w)(hgn:g.n<=g1.n)(hμ:∀i,i<g.n->g1.μ i=g.μ i)(hφ:∀t,inN t (la.Cq++c.pt)=true->f1 t=f t){T':Own}{x:VT Y la.vars}{H:HH Y}(hv:VTR g1.I g1.w f1 la.vars x A1)(hk:SgR g1 ks A2)(hst:St g1.I g1.w (AH1++((A1++A2)++T')))(hH:HR g1 H [] AH1 c.op)(hop:∀o,c.op=some o->o.i<g.n):∃g2,g2.w=g1.w/\g2.φ=f/\g2.I=g1.I/\Lx g g2/\RG g0 T' (hdK c ks la x H) f1 g2 AH1 (A1++A2):=by
 let gb:Gst:={I:=g1.I,w:=g1.w,n:=g.n,μ:=g1.μ,φ:=f}
 obtain⟨g2,a1,a2,a3,a4,a5,a6⟩:=Alj (g:=gb) (fr:=c.fr) (kp:=la.Cq) (λt i hi=>by
  unfold rnm at hi;split at hi
  .rename_i j hk ha;injection hi with hi
   subst hi;obtain⟨k1,k2⟩:=h.fr t _ ha;exact⟨k1,by show g1.μ j=f1 t;rw[hμ j k1,<-k2,hφ t (W2 hk)]⟩
  .cases hi) hv
 have hn:gb.n=c.nx:=h.n;rw[hn]at a4 a5 a6;have hle2:Le {g with φ:=f} g2:=⟨by rw[a3,a2];exact hle,a1.n,λi hi=>by rw[a1.μ i hi];exact hμ i hi,a1.φ⟩
 refine⟨g2,a2,a1.φ,a3,⟨hle2.ext,hle2.n,hle2.μ⟩,a4,by rw[a3,a2];exact h.le.trans hle,by rw[a3,a2];exact hst,?_,a6.app (SgR.chg (g0:=g) (g:=g1) a3 a2 a1.n (λi hi=>a1.μ i hi) hk0 hk),λy hy=>⟨Nat.lt_of_lt_of_le (h.hs y hy).1 hle2.n,by rw[hle2.μ _ (h.hs y hy).1];exact(h.hs y hy).2⟩,λt ht=>by rw[a1.φ];exact hφ t ht,λi a hi=>?_⟩
 .show HR g2 H _ AH1 c.op;cases ho:c.op with
  |none=>
   rw[ho]at hH;show HpR _ _ _ _ _;rw[a3,a2];exact hH
  |some o=>
   rw[ho]at hH;obtain⟨k1,k2,k3,k4⟩:=hH;have hlt:=hop o ho;exact⟨by rw[a3,a2];exact k1,k2,Nat.lt_of_lt_of_le hlt a1.n,by rw[a1.μ _ hlt];exact k4⟩
 rcases Al5 hi with hi|hi
 .exact a5 i a hi
 .obtain⟨h1,h2⟩:=Ag4 hi;rw[hφ i (W2 h2)];have:=(h.fr i a h1)
  exact AR.mono (g:={g with φ:=f}) hle2 (by cases a<;>exact this)
end
end
section
section
variable {Y:Sys}
variable {g0 g:Gst} {T AH A:Own} {c:Cf Y} {f:Fr}
theorem RG.world{T':Own}(h:RG g0 T c f g AH A){w':World}(e:Ext g.I g.w g.I w')(hst:St g.I w' (AH++(A++T'))):Le g {g with w:=w'}/\RG g0 T' c f {g with w:=w'} AH A:=by
 have hle:Le g {g with w:=w'}:=⟨e,Nat.le_refl _,λ_ _=>rfl,rfl⟩
 exact⟨hle,h.n,h.le.trans e,hst,h.hr.mono hle,h.sg.mono hle,h.hs.mono hle,hle.pt h.pt,λi a hi=>(h.fr i a hi).mono hle⟩
theorem RG.Ay0{B:Own}(h:RG g0 (B++T) c f g AH A):RG g0 T c f g AH A:=
 ⟨h.n,h.le,by
  have h1:St g.I g.w ((AH++A)++(B++T)):=by have:=h.st;rwa [List.append_assoc]
  have h2:=Fv h1;rwa [List.append_assoc]at h2,h.hr,h.sg,h.hs,h.pt,h.fr⟩
def rmF(t:Nat):List (Nat×AV Y)->List (Nat×AV Y)
 | []=>[]
 |p::l=>match Nat.beq p.1 t with
  |true=>rmF t l
  |false=>p::rmF t l
theorem Aqe{t:Nat}{a:AV Y}{i:Nat}:∀{l:List (Nat×AV Y)},lkF (rmF t l) i=some a->i≠t/\lkF l i=some a
 | [],h=>by simp [rmF,lkF]at h
 |p::l,h=>by
  unfold rmF at h;split at h
  .rename_i hp;have hp:=Nat.eq_of_beq_eq_true hp;obtain⟨h1,h2⟩:=Aqe h;exact⟨h1,by rw[lkF,if_neg (λe=>h1 (by omega))];exact h2⟩
  .rename_i hp;have hp:p.1≠t:=λe=>by rw[e]at hp;simp at hp
   unfold lkF at h ⊢;by_cases e:p.1=i
   .rw[if_pos e]at h ⊢;exact⟨λe'=>hp (by omega),h⟩
   .rw[if_neg e]at h ⊢;exact Aqe h
theorem RG.rm{N t:Nat}{v:Value}(h:RG g0 T c f g AH A)(ht:inN t c.pt=false):RG g0 T {c with fr:=rmF t c.fr} (X.put N f (some t) v) g AH A:=by
 refine⟨h.n,h.le,h.st,h.hr,h.sg,h.hs,λj hj=>?_,λi a hi=>?_⟩
 .have hne:j≠t:=λe=>by subst e;rw[show inN j c.pt=true from hj]at ht;cases ht
  show (if j=t then _ else f j)=_;rw[if_neg hne];exact h.pt j hj
 .obtain⟨h1,h2⟩:=Aqe hi;show AR g a (if i=t then _ else f i);rw[if_neg h1];exact h.fr i a h2
variable {es:Array MapEntry} {seen:Array Nat}
theorem Aon{b:Nat}:(leftOf es (seen.push b)).toList=(leftOf es seen).toList.filter λx=>x.born != b:=by unfold leftOf;simp only[Array.toList_filter,List.filter_filter];refine List.filter_congr λx _=>?_;by_cases h:x.born=b<;>simp [h,Bool.and_comm,bne]
def ItR(k e:Ty)(I:Reg)(w:World)(es:Array MapEntry)(seen:Array Nat)(left:List (den Y.D k×den Y.D e)):Prop:=∃l:List MapEntry,l.Perm (leftOf es seen).toList/\F2 (λ(x:MapEntry)(p:den Y.D k×den Y.D e)=>rp Y.toUS k I w x.key p.1/\rp Y.toUS e I w x.val p.2) l left
theorem ItR.mono{k e:Ty}{I I':Reg}{w w':World}{es:Array MapEntry}{seen:Array Nat}{left:List (den Y.D k×den Y.D e)}(h:ItR k e I w es seen left)(x:Ext I w I' w'):ItR k e I' w' es seen left:=by obtain⟨l,h1,h2⟩:=h;exact⟨l,h1,h2.mono λ_ _ r=>⟨Ig x r.1,Ig x r.2⟩⟩
theorem ItR.nil{k e:Ty}{I:Reg}{w:World}{es:Array MapEntry}{seen:Array Nat}{left:List (den Y.D k×den Y.D e)}(h:ItR k e I w es seen left)(h0:(leftOf es seen).size=0):left=[]:=by
 obtain⟨l,h1,h2⟩:=h;have:l.length=0:=by rw[h1.length_eq];simpa using h0
 have h3:=h2.len;exact List.length_eq_zero_iff.1 (by omega)
variable {k e:Ty}
theorem ItR.start{I:Reg}{w:World}{m:List (den Y.D k×den Y.D e)}(hl:es.toList.length=m.length)(hr:∀j(h:j<es.toList.length)(h':j<m.length),rp Y.toUS k I w es.toList[j].key m[j].1/\rp Y.toUS e I w es.toList[j].val m[j].2):ItR k e I w es #[] m:=by
 refine⟨es.toList,by rw[Ax7],?_⟩;generalize es.toList=l at hl hr;induction l generalizing m with
 |nil=>cases m with
  |nil=>exact .nil
  |cons=>simp at hl
 |cons x l ih=>cases m with
  |nil=>simp at hl
  |cons p m=>exact .cons (hr 0 (by simp) (by simp)) (ih (by simpa using hl) λj h1 h2=>hr (j+1) (by simpa using h1) (by simpa using h2))
theorem F2.split{α β:Type}{R:α->β->Prop}{x:α}{l2:List α}:∀{l1:List α}{m:List β},F2 R (l1++x::l2) m->∃m1 p m2,m=m1++p::m2/\R x p/\F2 R (l1++l2) (m1++m2)
 | [],m,h=>by cases h with
  |cons h1 h2=>exact⟨[],_,_,rfl,h1,h2⟩
 |y::l1,m,h=>by cases h with
  |cons h1 h2=>
   obtain⟨m1,p,m2,e,h3,h4⟩:=F2.split h2
   exact⟨_::m1,p,m2,by rw[e];rfl,h3,.cons h1 h4⟩
theorem ItR.step{I:Reg}{w:World}{left:List (den Y.D k×den Y.D e)}(h:ItR k e I w es seen left)(hn:(es.toList.map (·.born)).Nodup){x:MapEntry}(hx:x∈(leftOf es seen).toList):∃l1 p l2,left=l1++p::l2/\rp Y.toUS k I w x.key p.1/\rp Y.toUS e I w x.val p.2/\ItR k e I w es (seen.push x.born) (l1++l2):=by
 obtain⟨l,h1,h2⟩:=h;obtain⟨a,b,rfl⟩:=List.append_of_mem (h1.mem_iff.2 hx);obtain⟨m1,p,m2,rfl,h3,h4⟩:=F2.split h2;refine⟨m1,p,m2,rfl,h3.1,h3.2,a++b,?_,h4⟩;rw[Aon];have hsub:(leftOf es seen).toList.Sublist es.toList:=by unfold leftOf;rw[Array.toList_filter];exact List.filter_sublist
 have hnd:((a++x::b).map (·.born)).Nodup:=(h1.map _).nodup_iff.2 (hn.sublist (hsub.map _));have hf:=h1.filter λy=>y.born != x.born;have key:∀y∈a++b,(y.born != x.born)=true:=λy hy=>by
  rw[List.map_append,List.map_cons,List.nodup_append]at hnd;simp only[List.nodup_cons]at hnd;have hne:y.born≠x.born:=λe=>by
   rcases List.mem_append.1 hy with hy|hy
   .exact hnd.2.2 y.born (List.mem_map_of_mem hy) x.born (by simp) e
   .exact hnd.2.1.1 (e▸List.mem_map_of_mem hy)
  simpa using hne
 have e1:(a++x::b).filter (λy=>y.born != x.born)=a++b:=by rw[List.filter_append,List.filter_cons];simp only[bne_self_eq_false,Bool.false_eq_true,if_false];rw[<-List.filter_append,List.filter_eq_self.2 key]
 rw[e1]at hf;exact hf
theorem ItR.mem{x:MapEntry}(hx:x∈(leftOf es seen).toList):x∈es.toList:=by unfold leftOf at hx;rw[Array.toList_filter]at hx;exact(List.mem_filter.1 hx).1
structure MrI where
 bid:Nat
 id1:Nat
 tn:Nat
 te:Nat
 it:Nat
 m1:TypeId×String×Array Edge
 m2:TypeId×String×Array Edge
 b1:Nat
 id2:Nat
 dn:Nat
 m3:TypeId×String×Array Edge
 os:List Oper
 rest:Code
def MrI.A7o(i:MrI):Array Oper:=⟨[⟨some i.tn,.next (.tmp i.it) false,i.m1.1,i.m1.2.1,i.m1.2.2,none⟩,⟨some i.te,.extract (.tmp i.tn) 0,i.m2.1,i.m2.2.1,i.m2.2.2,none⟩]⟩
def MrI.A7n(i:MrI):Array Oper:=⟨⟨some i.dn,.entry (.tmp i.it),i.m3.1,i.m3.2.1,i.m3.2.2,none⟩::i.os⟩
def MrI.body(i:MrI):Code:=.seq (.region i.id1 i.A7o false) (.seq (.cond (.tmp i.te) .skip (.exit i.bid)) (.block i.b1 (.seq (.region i.id2 i.A7n false) i.rest)))
def MrI.code(i:MrI):Code:=.block i.bid (.loop i.body)
def mrP:Code->Option MrI
 | .block bid (.loop (.seq (.region id1 ⟨[⟨some tn,.next (.tmp it) false,x1,x2,x3,none⟩,⟨some te,.extract (.tmp tn') 0,y1,y2,y3,none⟩]⟩ false) (.seq (.cond (.tmp te') .skip (.exit bid')) (.block b1 (.seq (.region id2 ⟨⟨some dn,.entry (.tmp it'),z1,z2,z3,none⟩::os⟩ false) rest)))))=>
  if bid'=bid/\tn'=tn/\te'=te/\it'=it then some ⟨bid,id1,tn,te,it,(x1,x2,x3),(y1,y2,y3),b1,id2,dn,(z1,z2,z3),os,rest⟩ else none
 |_=>none
theorem A47{b:Code}{i:MrI}(h:mrP b=some i):b=i.code:=by
 unfold mrP at h;split at h
 .split at h
  .rename_i h1;obtain⟨rfl,rfl,rfl,rfl⟩:=h1;cases h;rfl
  .cases h
 .cases h
def Ov(c:Cf Y)(la:LA):List (Nat×Seg Y):=match Aqy (Nx c la.vars).fr la.vars (Nx c la.vars).sg with
 |some r=>r.2
 |none=>[]
def A3b(E:Env Y)(i:MrI)(la:LA)(c:Cf Y):Bool:=
 inN i.it (la.Cq++c.pt)&&!inN i.tn (la.Cq++c.pt)&&!inN i.te (la.Cq++c.pt)&&Nat.blt i.tn E.N&&Nat.blt i.te E.N&&!Nat.beq i.tn i.te&&!Nat.beq i.b1 i.bid&&!inN i.it (la.vars.map (·.1))
def mrB(E:Env Y)(i:MrI)(la:LA)(k e:Ty)(m:List (den Y.D k×den Y.D e))(c:Cf Y)(nx rt:Cf Y->Prop):Prop:=
 chk (A3b E i la c) (Aka (Ov c la) c.sg/\∃V:List (den Y.D k×den Y.D e)->VT Y la.vars->HH Y->Prop,Apf c.op (Ov c la) la c (V m)/\∀left x H,V left x H->
  (left=[]->nx {hdK c (Ov c la) la x H with fr:=(i.te,.val (.bool false))::rmF i.te (rmF i.tn (hdK c (Ov c la) la x H).fr),pt:=c.pt})/\
  ∀l1 p l2,left=l1++p::l2->
   Cf.put {hdK c (Ov c la) la x H with fr:=(i.te,.val (.bool true))::rmF i.te (rmF i.tn (hdK c (Ov c la) la x H).fr),sg:=((hdK c (Ov c la) la x H).nx,.tp [.dat k p.1,.dat e p.2])::(hdK c (Ov c la) la x H).sg,nx:=(hdK c (Ov c la) la x H).nx+1} E.N (some i.dn) (.own (hdK c (Ov c la) la x H).nx)
    λc3=>Afq E i.A7n i.os c3 λc4=>aex E i.rest c4 {nx:=λc'=>chk (Vu (la.Cq++c.pt) c'.pt) (Apf c.op (Ov c la) la c' (V (l1++l2))),ex:=[(i.b1,λc'=>chk (Vu (la.Cq++c.pt) c'.pt) (Apf c.op (Ov c la) la c' (V (l1++l2)))),(i.bid,wr c.pt nx)],rt:=rt})
theorem Asq{E:Env Y}{fn:FK}{gb:Gst}{R:Xit->World->Prop}{i:MrI}{la:LA}{m:List (den Y.D k×den Y.D e)}{nx rt:Cf Y->Prop}{td:List Item}{r mb cl:Nat}{l0:Array Nat}(hR:Kz g0 T E.X (fn.at R))(hb:Lx gb g)(h:RG g0 ([(r,.mapIter (some mb) cl #[] cl)]++([(mb,.map es cl)]++T)) c f g AH A)(hit:f i.it=.pointer (some ⟨r,0,none⟩))(hbo:(es.toList.map (·.born)).Nodup/\∀e∈es.toList,e.born<cl)(hI:ItR k e g.I g.w es #[] m)(hx:mrB E i la k e m c nx rt)(hnx:∀c f g' AH A,g'.φ=g.φ->Lx gb g'->RG g0 ([(mb,.map es cl)]++T) c f g' AH A->nx c->WT Y.P fn E.N td R f g'.w)(hrt:∀c f g' AH A k',Lx gb g'->RG g0 ([(mb,.map es cl)]++T) c f g' AH A->rt c->WT Y.P fn E.N (.code .ret::k') R f g'.w):WT Y.P fn E.N (.code i.code::td) R f g.w:=by
 obtain⟨hc,hkp,V,hV0,hstep⟩:=Bj hx;unfold A3b at hc;simp only[Bool.and_eq_true,Bool.not_eq_true']at hc;obtain⟨⟨⟨⟨⟨⟨⟨q1,q2⟩,q3⟩,q4⟩,q5⟩,q6⟩,q7⟩,q8⟩:=hc;have hop:∀o,c.op=some o->o.i<g.n:=λo ho=>by have:=h.hr;rw[ho]at this;exact this.2.2.1
 obtain⟨K1,K2,_,hks0⟩:=Ag2 h.sg hkp;generalize Ov c la=ks at hV0 hstep hks0;refine Q8 (Aky (λn f' w'=>∃left x H seen g2 AH2 A2,left.length=n/\g2.w=w'/\g2.φ=f/\Lx g g2/\V left x H/\ItR k e g2.I g2.w es seen left/\RG g0 ([(r,.mapIter (some mb) cl seen cl)]++([(mb,.map es cl)]++T)) (hdK c ks la x H) f' g2 AH2 A2) m.length ?_ ?_)
 .obtain⟨g1,x,H,AH1,A1,A2,e1,e2,e3,e4,e5,e6,e7⟩:=Ati h hV0;obtain⟨g2,k1,k2,k3,k4,k5⟩:=Ayj h hks0 e2.ext e2.n e2.μ (λ_ _=>rfl) e4 e5 e6 e7 hop;exact⟨m,x,H,#[],g2,AH1,_,rfl,k1.trans e1,k2,k4,e3,by rw[k3,k1];exact hI.mono e2.ext,k5⟩
 .rintro n f' w' ⟨left,x,H,seen,g2,AH2,A2,rfl,rfl,hφ,hlx,hV,hIt,hr⟩ ih;obtain⟨hz,hs⟩:=hstep left x H hV;have fit:f' i.it=.pointer (some ⟨r,0,none⟩):=by rw[hr.pt i.it q1,hφ,hit]
  have hpm:∀X:Own,(AH2++(A2++(X++T))).Perm (X++(AH2++(A2++T))):=λX=>by refine((List.perm_append_comm_assoc A2 X T).append_left AH2).trans ?_;exact List.perm_append_comm_assoc AH2 X (A2++T)
  have st0:St g2.I g2.w ([(r,.mapIter (some mb) cl seen cl)]++([(mb,.map es cl)]++(AH2++(A2++T)))):=by have:=hr.st.perm (hpm ([(r,.mapIter (some mb) cl seen cl)]++[(mb,.map es cl)]));exact this
  have sl:∀{T':Own}{c':Cf Y}{f1:Fr}{g':Gst}{AH' A':Own}(b:Bool)(v:Value),c'.pt=la.Cq++c.pt->RG g0 T' c' f1 g' AH' A'->RG g0 T' {c' with fr:=(i.te,.val (.bool b))::rmF i.te (rmF i.tn c'.fr)} (X.put E.N (X.put E.N f1 (some i.tn) v) (some i.te) (.bool b)) g' AH' A':=λ{T' c' f1 g' AH' A'}b v hp h1=>by have h2:=(h1.rm (N:=E.N) (t:=i.tn) (v:=v) (by rw[hp];exact q2)).rm (N:=E.N) (t:=i.te) (v:=.bool b) (by show inN _ c'.pt=false;rw[hp];exact q3);refine h2.cons (d:=i.te) (a:=.val (.bool b)) ?_;show _=Value.bool b;have:i.te<E.N:=Nat.le_of_ble_eq_true q5;simp [X.put,upd,this]
  have ext0:∀(b:Bool)(vs:List Value)(f1:Fr)(w1:World)(Q:Fr->World->Prop),Q (X.put E.N (X.put E.N f1 (some i.tn) (.tuple ⟨.bool b::vs⟩)) (some i.te) (.bool b)) w1->WL Y.P E.N i.A7o (fn.at R) false Q [⟨some i.te,.extract (.tmp i.tn) 0,i.m2.1,i.m2.2.1,i.m2.2.2,none⟩] (X.put E.N f1 (some i.tn) (.tuple ⟨.bool b::vs⟩)) w1:=λb vs f1 w1 Q hQ=>by
   refine Ax (v:=.bool b) ?_ hQ;have hlt:i.tn<E.N:=Nat.le_of_ble_eq_true q4;have:ev (X.put E.N f1 (some i.tn) (.tuple ⟨.bool b::vs⟩)) (.tmp i.tn)=.tuple ⟨.bool b::vs⟩:=by show X.put E.N f1 (some i.tn) _ i.tn=_;simp [X.put,upd,hlt]
   simp [execOp,Instr.extract,this]
  have tev:∀(b:Bool)(f1:Fr),ev (X.put E.N f1 (some i.te) (.bool b)) (.tmp i.te)=.bool b:=λb f1=>by have hlt:i.te<E.N:=Nat.le_of_ble_eq_true q5;show X.put E.N f1 (some i.te) _ i.te=_;simp [X.put,upd,hlt]
  have exf:exitTo i.bid (.inLoop i.body::.inBlock i.bid::td)=some td:=by simp [exitTo]
  have hptK:∀t,inN t c.pt=true->f t=g.φ t:=h.pt;have out:∀{c':Cf Y}{f1:Fr}{g':Gst}{AH' A':Own},g'.φ=f->Lx g g'->RG g0 ([(mb,.map es cl)]++T) c' f1 g' AH' A'->Vu c.pt c'.pt=true->nx {c' with pt:=c.pt}->WT Y.P fn E.N td R f1 g'.w:=λ{c' f1 g' AH' A'}hf hl h1 hsub hq=>
   hnx _ f1 {g' with φ:=g.φ} AH' A' rfl (hb.trans ⟨hl.ext,hl.n,hl.μ⟩) (h1.phi λt ht=>by rw[h1.pt t (Xr hsub ht),hf];exact hptK t ht) hq
  refine Fo (Ef ?_);refine A4r st0 hbo.2 fit (λh0=>?_) λx' hx' w' e' s'=>?_
  .have hl:=hIt.nil h0;refine ext0 false [] f' g2.w _ ?_;refine Fo (V3 (tev false _) (Afa (k':=td) (by simp [exitTo]) ?_));have h1:=sl false (.tuple ⟨.bool false::[]⟩) rfl hr.Ay0;exact out hφ hlx h1 (by unfold Vu;rw[List.all_eq_true];exact λt ht=>Ads (Al9.2 ht)) (hz hl)
  .obtain⟨l1,p,l2,hleft,hk,he,hIt'⟩:=hIt.step hbo.1 hx';have hs':=hs l1 p l2 hleft;refine ext0 true [x'.key,x'.val] f' w' _ ?_;refine Fo (Aaw (tev true _) (Aax (Q8 ?_)));have hst2:St g2.I w' (AH2++(A2++([(r,.mapIter (some mb) cl (seen.push x'.born) cl)]++([(mb,.map es cl)]++T)))):=by have:=s'.perm (hpm ([(r,.mapIter (some mb) cl (seen.push x'.born) cl)]++[(mb,.map es cl)])).symm;exact this
   obtain⟨hle3,h3⟩:=hr.world e' hst2;have h4:=sl true (.tuple ⟨[.bool true,x'.key,x'.val]⟩) rfl h3;generalize hf2:X.put E.N (X.put E.N f' (some i.tn) (.tuple ⟨[.bool true,x'.key,x'.val]⟩)) (some i.te) (.bool true)=f2 at h4 ⊢;have fit2:f2 i.it=.pointer (some ⟨r,0,none⟩):=by have:=h4.pt i.it q1;rw[this];show g2.φ i.it=_;rw[hφ,hit]
   generalize hg3:({g2 with w:=w'}:Gst)=g3 at hle3 h4;have hw3:g3.w=w':=by rw[<-hg3]
   have hI3:g3.I=g2.I:=by rw[<-hg3]
   have hφ3:g3.φ=f:=by rw[<-hg3];exact hφ
   have e3:Ext g2.I g2.w g3.I g3.w:=hle3.ext;have hst3:St g3.I g3.w ([(r,.mapIter (some mb) cl (seen.push x'.born) cl)]++([(mb,.map es cl)]++(AH2++(A2++T)))):=by rw[hw3,hI3];exact s'
   have hle4:Le g3 (g3.new g3.w (.tuple #[x'.key,x'.val])):=Le.new (Ext.refl _ _);have h5:=h4.new (w':=g3.w) (v:=.tuple #[x'.key,x'.val]) (s:=.tp [.dat k p.1,.dat e p.2]) (A1:=[]) (Ext.refl _ _) ⟨rfl,[x'.key,x'.val],g3.Cz _ _,.cons (show rp Y.toUS k _ _ _ _ from Ig (e3.trans hle4.ext) hk) (.cons (show rp Y.toUS e _ _ _ _ from Ig (e3.trans hle4.ext) he) .nil)⟩ h4.st;have hown:AR (Y:=Y) (g3.new g3.w (.tuple #[x'.key,x'.val])) (.own (hdK c ks la x H).nx) (.tuple #[x'.key,x'.val]):=J0 h4.n;obtain⟨c3,g4,k1,k2,k3,k4,k5⟩:=h5.put (N:=E.N) (dst:=some i.dn) hown hs';rw[<-hw3];refine Fo (Ef (A04 hst3 (ItR.mem hx') hbo.1 fit2 ?_));have hw4:g4.w=g3.w:=k2;rw[<-hw4];have hlx4:Lx g g4:=hlx.trans ((hle3.trans hle4).trans k4).lx;have hR':Kz g0 ([(r,.mapIter (some mb) cl (seen.push x'.born) cl)]++([(mb,.map es cl)]++T)) E.X (fn.at R):=λv w2 I' AH' H' t l u p1 p2 p3 p4 p5 p6=>hR v w2 I' AH' H' t l u p1 (by have:=Fv (A:=AH') (B:=[(r,.mapIter (some mb) cl (seen.push x'.born) cl)]) p2;exact Fv (A:=AH') (B:=[(mb,.map es cl)]) this) p3 p4 p5 p6
   have hφ4:g4.φ=f:=by rw[k4.φ];exact hφ3
   have hIt4:∀{g5:Gst},Lx g4 g5->ItR k e g5.I g5.w es (seen.push x'.born) (l1++l2):=λ{g5}hl5=>hIt'.mono (((hle3.trans hle4).trans k4).ext.trans hl5.ext);have back:∀{c':Cf Y}{f5:Fr}{g5:Gst}{AH5 A5:Own},g5.φ=f->Lx g4 g5->RG g0 ([(r,.mapIter (some mb) cl (seen.push x'.born) cl)]++([(mb,.map es cl)]++T)) c' f5 g5 AH5 A5->chk (Vu (la.Cq++c.pt) c'.pt) (Apf c.op ks la c' (V (l1++l2)))->WT Y.P fn E.N (.inLoop i.body::.inBlock i.bid::td) R f5 g5.w:=λ{c' f5 g5 AH5 A5}hf hl5 h6 hq=>by obtain⟨hsub,hq⟩:=Bj hq;obtain⟨g6,y,H6,AH6,B1,B2,e1,e2,e3,e4,e5,e6,e7⟩:=Ati h6 hq;have hl6:Lx g g6:=(hlx4.trans hl5).trans e2.lx;obtain⟨g7,k1,k2,k3,k4,k5⟩:=Ayj h hks0 hl6.ext hl6.n hl6.μ (λt ht=>by rw[h6.pt t (Xr hsub ht),hf]) e4 e5 e6 e7 hop;have hit7:=hIt4 (hl5.trans e2.lx);exact ih.out (l1++l2).length f5 g5.w (by rw[hleft];simp) ⟨l1++l2,y,H6,seen.push x'.born,g7,AH6,_,rfl,k1.trans e1,k2,k4,e3,by rw[k3,k1];exact hit7,k5⟩
   refine Aav hR' i.os k5 k1 λc5 f5 g5 AH5 A5 hle5 h6 hq5=>?_;refine Ky (E:=E) (fn:=fn) (gb:=g4) hR' i.rest (ks:={nx:=λc'=>chk (Vu (la.Cq++c.pt) c'.pt) (Apf c.op ks la c' (V (l1++l2))),ex:=[(i.b1,λc'=>chk (Vu (la.Cq++c.pt) c'.pt) (Apf c.op ks la c' (V (l1++l2)))),(i.bid,wr c.pt nx)],rt:=rt}) ⟨?_,?_,?_⟩ hle5.lx h6 hq5
   .exact λc' f' g' AH' A' hf hl5 h6 hq=>Q7 (back (by rw[hf,hle5.φ,hφ4]) hl5 h6 hq)
   .intro id q hq;simp only[lkE]at hq;by_cases he1:i.b1=id
    .rw[if_pos he1]at hq;cases hq;subst he1;exact⟨_,by simp [exitTo],λc' f' g' AH' A' hf hl5 h6 hq=>back (by rw[hf,hle5.φ,hφ4]) hl5 h6 hq⟩
    .rw[if_neg he1]at hq;by_cases he2:i.bid=id
     .rw[if_pos he2]at hq;cases hq;subst he2;refine⟨td,by simp [exitTo,he1],λc' f' g' AH' A' hf hl5 h6 hq=>?_⟩;obtain⟨hsub,hq⟩:=Bj hq;exact out (by rw[hf,hle5.φ,hφ4]) (hlx4.trans hl5) h6.Ay0 hsub hq
     .rw[if_neg he2]at hq;cases hq
   .exact λc' f' g' AH' A' k' hl5 h6 hq=>hrt _ _ _ _ _ _ (hb.trans (hlx4.trans hl5)) h6.Ay0 hq
end
end
section
structure RgO where
 d:Nat
 t:TypeId
 x:Operand
 ty:TypeId
 pos:String
 af:Array Edge
def RgO.op(r:RgO):Oper:=⟨some r.d,.range r.t r.x,r.ty,r.pos,r.af,none⟩
def rgL:List Oper->Option (List Oper×RgO)
 | []=>none
 |o::os=>match os with
  | []=>match o with
   |⟨some d,.range t x,ty,pos,af,none⟩=>some ([],⟨d,t,x,ty,pos,af⟩)
   |_=>none
  |_::_=>match rgL os with
   |some r=>some (o::r.1,r.2)
   |none=>none
theorem Awr:∀{l:List Oper}{r:List Oper×RgO},rgL l=some r->l=r.1++[r.2.op]
 | [],r,h=>by simp [rgL]at h
 |o::os,r,h=>by
  unfold rgL at h;split at h
  .split at h
   .cases h;rfl
   .cases h
  .split at h
   .rename_i r' hr;cases h;rw[Awr hr];rfl
   .cases h
def mrC(a b:Code):Option (Nat×Array Oper×(List Oper×RgO)×MrI):=match a with
 | .region id ops false=>match rgL ops.toList,mrP b with
  |some r,some i=>some (id,ops,r,i)
  |_,_=>none
 |_=>none
theorem A49{a b:Code}{q:Nat×Array Oper×(List Oper×RgO)×MrI}(h:mrC a b=some q):a=.region q.1 q.2.1 false/\q.2.1.toList=q.2.2.1.1++[q.2.2.1.2.op]/\b=q.2.2.2.code:=by
 unfold mrC at h;split at h
 .split at h
  .rename_i r i h1 h2;cases h;exact⟨rfl,Awr h1,A47 h2⟩
  .cases h
 .cases h
section
variable {Y:Sys}
theorem Ap1{P:Program}{N:Nat}{ops:Array Oper}{R:List PanicEntry->World->Prop}{m:Bool}{K:Fr->World->Prop}{l2:List Oper}:∀{l1:List Oper}{f:Fr}{w:World},WL P N ops R m (λf w=>WL P N ops R m K l2 f w) l1 f w->WL P N ops R m K (l1++l2) f w
 | [],f,w,h=>h
 |o::l1,f,w,h=>by
  simp only[List.cons_append,WL]at h ⊢;split at h
  .rename_i hw;rw[if_pos hw];exact h.mono λv w' h=>Ap1 h
  .rename_i hw;rw[if_neg hw];exact Ap1 h
def mrD(E:Env Y)(q:RgO)(i:MrI)(c:Cf Y):Bool:=!inN q.d c.pt&&Nat.blt q.d E.N&&Nat.beq q.d i.it
def mrE(E:Env Y)(q:RgO)(i:MrI)(c:Cf Y)(nx rt:Cf Y->Prop):Prop:=match Aad Y.P q.t,evA c q.x,lkA E.lp i.id1 with
 |some (kt,et),some (.own j),some la=>match lkS c.sg j with
  |some (.mp k e m)=>chk (mrD E q i c) (mrB E i la k e m {c.Hd with fr:=rmF q.d c.fr,sg:=Kc c.sg j} (λc'=>nx {c' with sg:=(j,.mp k e m)::c'.sg}) λc'=>rt {c' with sg:=(j,.mp k e m)::c'.sg})
  |_=>False
 |some (kt,et),some (.dat .mref p),some la=>match Y.ty kt,Y.ty et with
  |some k,some e=>cls c λc=>chk (mrD E q i c) (∃b,p=some b/\∃m,c.H b=some (.mp k e m)/\mrB E i la k e m {c with fr:=rmF q.d c.fr,H:=Dp c.H b} (λc'=>cls c' λc'=>nx {c' with H:=Ab c'.H b (.mp k e m)}) λc'=>cls c' λc'=>rt {c' with H:=Ab c'.H b (.mp k e m)})
  |_,_=>False
 |_,_,_=>False
theorem A48{E:Env Y}{fn:FK}{g0 g gb:Gst}{T AH A:Own}{R:Xit->World->Prop}{c:Cf Y}{f:Fr}{q:RgO}{i:MrI}{nx rt:Cf Y->Prop}{td:List Item}{ops:Array Oper}(hR:Kz g0 T E.X (fn.at R))(hb:Lx gb g)(h:RG g0 T c f g AH A)(hx:mrE E q i c nx rt)(hnx:∀c f g' AH A,g'.φ=g.φ->Lx gb g'->RG g0 T c f g' AH A->nx c->WT Y.P fn E.N td R f g'.w)(hrt:∀c f g' AH A k',Lx gb g'->RG g0 T c f g' AH A->rt c->WT Y.P fn E.N (.code .ret::k') R f g'.w):WL Y.P E.N ops (fn.at R) false (WT Y.P fn E.N (.code i.code::td) R) [q.op] f g.w:=by
 unfold mrE at hx;split at hx
 .rename_i kt et j la hm ha hla;split at hx
  .rename_i k e m hs;obtain⟨hc,hx⟩:=Bj hx;unfold mrD at hc;simp only[Bool.and_eq_true,Bool.not_eq_true',Nat.beq_eq]at hc;obtain⟨⟨q1,q2⟩,q3⟩:=hc;obtain⟨A1,A2,hp,hj,ho,hsg⟩:=h.sg.take hs;have hv:=(h.ev ha).2;obtain⟨b,es,cl,rfl,hvb,hl,hr⟩:=@Dz.ex _ _ (RT Y.toUS k) (RT Y.toUS e) _ _ _ _ _ ho;have hbo:=@Dz.bo _ _ (RT Y.toUS k) (RT Y.toUS e) _ _ _ _ _ ho b es cl rfl;have hst:St g.I g.w ([(b,.map es cl)]++(AH++(A2++T))):=h.st.perm (Jj hp AH);refine Ash (Al1 hm) hst (hv.trans hvb) λr w' e1 s1=>?_;have hst2:St g.I w' (AH++(A2++([(r,.mapIter (some b) cl #[] cl)]++([(b,.map es cl)]++T)))):=by
    refine s1.perm ?_;have hpm:∀X:Own,(X++(AH++(A2++T))).Perm (AH++(A2++(X++T))):=λX=>by refine(List.perm_append_comm_assoc X AH (A2++T)).trans ?_;exact(List.perm_append_comm_assoc X A2 T).append_left AH
    exact hpm ([(r,.mapIter (some b) cl #[] cl)]++[(b,.map es cl)])
   have h1:RG g0 ([(r,.mapIter (some b) cl #[] cl)]++([(b,.map es cl)]++T)) {c.Hd with sg:=Kc c.sg j} f {g with w:=w'} AH A2:=by
    replace h:=h.Hd;have hle:Le g {g with w:=w'}:=⟨e1,Nat.le_refl _,λ_ _=>rfl,rfl⟩
    exact⟨h.n,h.le.trans e1,hst2,h.hr.mono hle,hsg.mono hle,h.hs.mono hle,hle.pt h.pt,λi a hi=>(h.fr i a hi).mono hle⟩
   have h2:=h1.rm (N:=E.N) (t:=q.d) (v:=.pointer (some ⟨r,0,none⟩)) q1;have hlx:Lx g ({g with w:=w'}:Gst):=⟨e1,Nat.le_refl _,λ_ _=>rfl⟩
   have rest:∀{c':Cf Y}{f':Fr}{g':Gst}{AH' A':Own},Lx ({g with w:=w'}:Gst) g'->RG g0 ([(b,.map es cl)]++T) c' f' g' AH' A'->RG g0 T {c' with sg:=(j,.mp k e m)::c'.sg} f' g' AH' ([(b,.map es cl)]++A'):=λ{c' f' g' AH' A'}hl h3=>by
    refine⟨h3.n,h3.le,?_,?_,⟨[(b,.map es cl)],A',rfl,Nat.lt_of_lt_of_le hj hl.n,?_,h3.sg⟩,h3.hs,h3.pt,h3.fr⟩
    .have:=h3.st;refine this.perm (List.Perm.append_left AH' ?_);rw[List.append_assoc];exact List.perm_append_comm_assoc A' [(b,.map es cl)] T
    .have:=h3.hr;show HR _ _ _ _ c'.op;cases ho:c'.op with
     |none=>rw[ho]at this;exact this
     |some o=>rw[ho]at this;exact this
    .show OMp Y k e _ _ _ (g'.μ j) m;have hmu:g'.μ j=g.μ j:=hl.μ j hj;rw[hmu];exact @Dz.mono _ _ (RT Y.toUS k) (RT Y.toUS e) _ _ _ _ _ _ _ ho (hlx.trans hl).ext
   refine Asq (gb:={g with w:=w'}) (l0:=#[]) hR (Lx.refl _) h2 ?_ hbo ?_ hx (λc' f' g' AH' A' hf hl h3 hq=>?_) λc' f' g' AH' A' k' hl h3 hq=>?_
   .have hlt:q.d<E.N:=Nat.le_of_ble_eq_true q2;rw[<-q3];simp [X.put,upd,hlt]
   .exact(ItR.start hl hr).mono e1
   .exact hnx _ _ _ _ _ (by rw[hf]) (hb.trans (hlx.trans hl)) (rest hl h3) hq
   .exact hrt _ _ _ _ _ _ (hb.trans (hlx.trans hl)) (rest hl h3) hq
  .exact hx.elim
 .rename_i kt et p la hm ha hla;split at hx
  .rename_i k e hk he;obtain⟨c1,g1,AH1,A1,hx,hw,hle1,h1,_,hop⟩:=Fi h hx;rw[<-hw];obtain⟨hc,b,hp,m,hmp,hx⟩:=Bj hx;unfold mrD at hc;simp only[Bool.and_eq_true,Bool.not_eq_true',Nat.beq_eq]at hc;obtain⟨⟨q1,q2⟩,q3⟩:=hc;have hH:=h1.hr;rw[hop]at hH;obtain⟨B1,B2,ho,hX,hst⟩:=HpR.take hH hmp h1.st;obtain⟨b',es,cl,rfl,hvb,hl,hr⟩:=@Dz.ex _ _ (RT Y.toUS k) (RT Y.toUS e) _ _ _ _ _ ho;cases hvb;have hbo:=@Dz.bo _ _ (RT Y.toUS k) (RT Y.toUS e) _ _ _ _ _ ho b es cl rfl;have hv:ev f q.x=.map (some b):=by have:=Q0.1 (h.ev ha);rw[this,hp]
   refine Ash (Al1 hm) hst hv λr w' e1 s1=>?_;have hst2:St g1.I w' (B2++(A1++([(r,.mapIter (some b) cl #[] cl)]++([(b,.map es cl)]++T)))):=by
    refine s1.perm ?_;have hpm:∀X:Own,(X++(B2++(A1++T))).Perm (B2++(A1++(X++T))):=λX=>by refine(List.perm_append_comm_assoc X B2 (A1++T)).trans ?_;exact(List.perm_append_comm_assoc X A1 T).append_left B2
    exact hpm ([(r,.mapIter (some b) cl #[] cl)]++[(b,.map es cl)])
   have hle2:Le g1 {g1 with w:=w'}:=⟨e1,Nat.le_refl _,λ_ _=>rfl,rfl⟩
   have hne:∀p∈B2,p.1≠b:=λp hp' e'=>by have hn:=hst.nodup;simp only[List.cons_append,List.nil_append,List.map_cons,List.nodup_cons]at hn;exact hn.1 (by rw[List.map_append];exact List.mem_append_left _ (e'▸List.mem_map_of_mem hp'))
   have h2:RG g0 ([(r,.mapIter (some b) cl #[] cl)]++([(b,.map es cl)]++T)) {c1 with H:=Dp c1.H b} f {g1 with w:=w'} B2 A1:=by refine⟨h1.n,h1.le.trans e1,hst2,?_,h1.sg.mono hle2,h1.hs.mono hle2,hle2.pt h1.pt,λi a hi=>(h1.fr i a hi).mono hle2⟩;show HR _ _ _ _ c1.op;rw[hop];exact HpR.mono (Ab7 hX hne) e1
   have h3:=h2.rm (N:=E.N) (t:=q.d) (v:=.pointer (some ⟨r,0,none⟩)) q1;have hlx:Lx g ({g1 with w:=w'}:Gst):=hle1.lx.trans hle2.lx;have rest:∀{c':Cf Y}{f':Fr}{g':Gst}{AH' A':Own},c'.op=none->Lx ({g1 with w:=w'}:Gst) g'->RG g0 ([(b,.map es cl)]++T) c' f' g' AH' A'->RG g0 T {c' with H:=Ab c'.H b (.mp k e m)} f' g' ([(b,.map es cl)]++AH') A':=λ{c' f' g' AH' A'}hop' hl h4=>by
    refine⟨h4.n,h4.le,?_,?_,h4.sg,h4.hs,h4.pt,h4.fr⟩
    .have:=h4.st;refine this.perm ?_;rw[List.append_assoc];refine(List.Perm.append_left AH' (List.perm_append_comm_assoc A' [(b,.map es cl)] T)).trans ?_;exact List.perm_append_comm_assoc AH' [(b,.map es cl)] (A'++T)
    .have hH':=h4.hr;rw[hop']at hH';show HR _ _ _ _ c'.op;rw[hop'];refine HpR.new (A1:=[(b,.map es cl)]) hH' ?_;exact @Dz.mono _ _ (RT Y.toUS k) (RT Y.toUS e) _ _ _ _ _ _ _ ho (hle2.lx.trans hl).ext
   refine Asq (gb:={g1 with w:=w'}) (l0:=#[]) hR (Lx.refl _) h3 ?_ hbo ?_ hx (λc' f' g' AH' A' hf hl h4 hq=>?_) λc' f' g' AH' A' k' hl h4 hq=>?_
   .have hlt:q.d<E.N:=Nat.le_of_ble_eq_true q2;rw[<-q3];simp [X.put,upd,hlt]
   .exact(ItR.start hl hr).mono e1
   .obtain⟨c2,g2,AH2,A2,hq2,hw2,hle3,h5,_,hop2⟩:=Fi h4 hq;rw[<-hw2];exact hnx _ _ _ _ _ (by rw[hle3.φ,hf];exact hle1.φ) (hb.trans (hlx.trans (hl.trans hle3.lx))) (rest hop2 (hl.trans hle3.lx) h5) hq2
   .obtain⟨c2,g2,AH2,A2,hq2,hw2,hle3,h5,_,hop2⟩:=Fi h4 hq;rw[<-hw2];exact hrt _ _ _ _ _ _ (hb.trans (hlx.trans (hl.trans hle3.lx))) (rest hop2 (hl.trans hle3.lx) h5) hq2
  .exact hx.elim
 .exact hx.elim
def mrX(E:Env Y)(q:Nat×Array Oper×(List Oper×RgO)×MrI)(c:Cf Y)(nx rt:Cf Y->Prop):Prop:=Afq E q.2.1 q.2.2.1.1 c λc=>mrE E q.2.2.1.2 q.2.2.2 c nx rt
theorem A46{E:Env Y}{fn:FK}{g0 g gb:Gst}{T AH A:Own}{R:Xit->World->Prop}{c:Cf Y}{f:Fr}{a b:Code}{q:Nat×Array Oper×(List Oper×RgO)×MrI}{nx rt:Cf Y->Prop}{td:List Item}(hq:mrC a b=some q)(hR:Kz g0 T E.X (fn.at R))(hb:Lx gb g)(h:RG g0 T c f g AH A)(hx:mrX E q c nx rt)(hnx:∀c f g' AH A,g'.φ=g.φ->Lx gb g'->RG g0 T c f g' AH A->nx c->WT Y.P fn E.N td R f g'.w)(hrt:∀c f g' AH A k',Lx gb g'->RG g0 T c f g' AH A->rt c->WT Y.P fn E.N (.code .ret::k') R f g'.w):WT Y.P fn E.N (.code (.seq a b)::td) R f g.w:=by obtain⟨rfl,h1,rfl⟩:=A49 hq;refine Fo (Ef ?_);rw[h1];refine Ap1 (Aav hR _ h hx λc' f' g' AH' A' hle hr hx'=>?_);exact A48 hR (hb.trans hle.lx) hr hx' (λc f g2 AH A hf hl hr hq=>hnx c f g2 AH A (by rw[hf,hle.φ]) hl hr hq) hrt
end
end
end Go.Y
