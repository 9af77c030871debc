/-
  The Y layer, part z: keys of maps that are pairs of numbers. (Merged by program out of 7 texts.)
-/
import Derived.Test.YtcbkbpjlbmalmaaGreatDoorpae
import Derived.ChangeKeysEq
namespace Go.Y
open Go Go.RowKit Go.X
section
section
variable {Y:Sys}
def nmA(n:Nat):AV Y->Prop
 | .own i | .adr i _ | .el i _ _ _ | .ptr i _ | .hp i _ _ | .sub i _ _=>i<n
 |_=>True
variable {g:B3}
theorem AR.nm{a:AV Y}{v:Value}(h:AR g a v):nmA g.n a:=by cases a<;>first|exact h.1|exact trivial
theorem AR.chg{g':B3}{n:Nat}(hI:g'.I=g.I)(hw:g'.w=g.w)(hn:n<=g'.n)(hμ:∀i,i<n->g'.μ i=g.μ i){a:AV Y}{v:Value}(hm:nmA n a)(h:AR g a v):AR g' a v:=by
 cases a with
 |dat t x=>show rp _ _ _ _ _ _;rw[hI,hw];exact h
 |nat j|prp p d=>exact h
 |own i|adr i o|el i t j o=>exact⟨Nat.lt_of_lt_of_le hm hn,by rw[hμ i hm];exact h.2⟩
 |del t x o=>obtain⟨b,off,u,h1,h2,h3,h4⟩:=h;exact⟨b,off,u,by rw[hI,hw];exact h1,by rw[hw];exact h2,by rw[hI];exact h3,h4⟩
 |ptr i p|hp i b o=>exact⟨Nat.lt_of_lt_of_le hm hn,by rw[hμ i hm];exact h.2⟩
 |mob b=>exact h
 |sub i T lo=>exact⟨Nat.lt_of_lt_of_le hm hn,by rw[hμ i hm];exact h.2⟩
 |val u=>exact h
 |ifc t T x=>obtain⟨u,h1,h2⟩:=h;exact⟨u,h1,by rw[hI,hw];exact h2⟩
 |fn as rs F=>show FvR _ _ _ _ _ _ _;rw[hI,hw];exact h
 |fbx as rs F=>show FbR _ _ _ _ _ _ _;rw[hI,hw];exact h
def nmS(n:Nat):C6 Y->Prop
 | .blk cs | .ag cs=>∀a∈cs,nmA n a
 | .tp l=>∀a∈l,nmA n a
 | .clo _ l m=>(∀a∈l,nmA n a)/\∀a∈m,nmA n a
 | .sl _ _ | .mp _ _ _=>True
theorem F2.nm{R:Value->Prop}{l:List (AV Y)}{m:List Value}(h:F2 (λa v=>AR g a v/\R v) l m):∀a∈l,nmA g.n a:=λa ha=>by obtain⟨v,_,hv⟩:=h.mem a ha;exact hv.1.nm
theorem F2.nm'{l:List (AV Y)}{m:List Value}(h:F2 (AR g) l m):∀a∈l,nmA g.n a:=λa ha=>by obtain⟨v,_,hv⟩:=h.mem a ha;exact hv.nm
variable {A:Bh}
theorem SR.nm{i:Nat}{s:C6 Y}(h:SR g i s A):nmS g.n s:=by
 cases s with
 |blk cs=>obtain⟨b,arr,e,h1,h2,h3⟩:=h;exact h3.nm
 |sl t xs|mp k e m=>exact trivial
 |tp l=>obtain⟨h1,vs,h2,h3⟩:=h;exact h3.nm'
 |ag l=>obtain⟨h1,vs,h2,h3⟩:=h;exact h3.nm
 |clo q l m=>obtain⟨h1,vs,us,h2,h3,h4⟩:=h;exact⟨h3.nm',h4.nm'⟩
theorem F2.Ams{α β:Type}{R:α->β->Prop}{Q:α->Prop}{l:List α}{m:List β}(h:F2 R l m)(hq:∀a∈l,Q a):F2 (λa b=>Q a/\R a b) l m:=by
 induction h with
 |nil=>exact .nil
 |cons h _ ih=>exact .cons ⟨hq _ List.mem_cons_self,h⟩ (ih λa ha=>hq a (List.mem_cons_of_mem _ ha))
theorem SR.chg{g':B3}{n i:Nat}(hi:i<n)(hI:g'.I=g.I)(hw:g'.w=g.w)(hn:n<=g'.n)(hμ:∀i,i<n->g'.μ i=g.μ i){s:C6 Y}(hm:nmS n s)(h:SR g i s A):SR g' i s A:=by
 cases s with
 |blk cs=>obtain⟨b,arr,e,h1,h2,h3⟩:=h;exact⟨b,arr,e,h1,by rw[hμ i hi];exact h2,(h3.Ams hm).mono λ_ _ r=>⟨r.2.1.chg hI hw hn hμ r.1,r.2.2⟩⟩
 |sl t xs=>show ND _ _ _ _ _ _ _;rw[hI,hw,hμ i hi];exact h
 |mp k e m=>show WN _ _ _ _ _ _ _ _;rw[hI,hw,hμ i hi];exact h
 |tp l=>obtain⟨h1,vs,h2,h3⟩:=h;exact⟨h1,vs,by rw[hμ i hi];exact h2,(h3.Ams hm).mono λ_ _ r=>r.2.chg hI hw hn hμ r.1⟩
 |ag l=>obtain⟨h1,vs,h2,h3⟩:=h;exact⟨h1,vs,by rw[hμ i hi];exact h2,(h3.Ams hm).mono λ_ _ r=>⟨r.2.1.chg hI hw hn hμ r.1,r.2.2⟩⟩
 |clo q l m=>obtain⟨h1,vs,us,h2,h3,h4⟩:=h;exact⟨h1,vs,us,by rw[hμ i hi];exact h2,(h3.Ams hm.1).mono λ_ _ r=>r.2.chg hI hw hn hμ r.1,(h4.Ams hm.2).mono λ_ _ r=>r.2.chg hI hw hn hμ r.1⟩
def Yh:List (Nat×C6 Y)->List (Nat×C6 Y)->Prop
 | [],_=>True
 |p::ks,sg=>HG sg p.1=some p.2/\Yh ks (Gb sg p.1)
theorem VE{g:B3}:∀{ks sg:List (Nat×C6 Y)}{A:Bh},Fv g sg A->Yh ks sg->∃A1 A2,A.Perm (A1++A2)/\Fv g ks A1
 | [],sg,A,_,_=>⟨[],A,by simp,rfl⟩
 |p::ks,sg,A,h,⟨h1,h2⟩=>by obtain⟨A1,A2,k1,k2,k3,k4⟩:=h.take h1;obtain⟨B1,B2,k5,k6⟩:=VE k4 h2;exact⟨A1++B1,B2,k1.trans (by rw[List.append_assoc];exact k5.append_left A1),A1,B1,rfl,k2,k3,k6⟩
theorem Fv.chg{g0 g g':B3}(hI:g'.I=g.I)(hw:g'.w=g.w)(hn:g0.n<=g'.n)(hμ:∀i,i<g0.n->g'.μ i=g.μ i):∀{ks:List (Nat×C6 Y)}{A A0:Bh},Fv g0 ks A0->Fv g ks A->Fv g' ks A
 | [],_,_,_,h=>h
 |_::_,_,_,⟨_,_,_,h2,h3,h4⟩,⟨B1,B2,k1,_,k3,k4⟩=>⟨B1,B2,k1,Nat.lt_of_lt_of_le h2 hn,k3.chg h2 hI hw hn hμ h3.nm,Fv.chg hI hw hn hμ h4 k4⟩
def hdK(c:Cf Y)(ks:List (Nat×C6 Y))(la:LA)(x:VT Y la.vars)(H:HH Y):Cf Y:={hdC c la x H with sg:=(hdC c la x H).sg++ks,op:=c.op}
def Ahi(op:Option (WM Y))(ks:List (Nat×C6 Y))(la:LA)(c':Cf Y)(K:VT Y la.vars->HH Y->Prop):Prop:=match Aeu (IC c' la.vars).fr la.vars (IC c' la.vars).sg,op,(IC c' la.vars).op with
 |some r,none,none=>Yh ks r.2/\K r.1 (IC c' la.vars).H
 |some r,some o,some o'=>o'=o/\Yh ks r.2/\K r.1 (IC c' la.vars).H
 |_,_,_=>False
def Acu(op:Option (WM Y))(ks:List (Nat×C6 Y))(la:LA)(c':Cf Y)(K:VT Y la.vars->HH Y->Prop):Prop:=match op with
 |none=>cls c' λc'=>Ahi none ks la c' K
 |some o=>Ahi (some o) ks la c' K
theorem Ahh{g0:B3}{T AH:Bh}{c:Cf Y}{f:Fr}{op:Option (WM Y)}{ks:List (Nat×C6 Y)}{la:LA}(h:RG g0 T c f g AH A){K:VT Y la.vars->HH Y->Prop}(hk:Acu op ks la c K):∃g1 x H AH1 A1 A2,g1.w=g.w/\Le g g1/\K x H/\VTR g1.I g1.w f la.vars x A1/\Fv g1 ks A2/\St g1.I g1.w (AH1++((A1++A2)++T))/\HR g1 H [] AH1 op:=by
 have key:∀{c1:Cf Y}{gg:B3}{AH1 A0:Bh},RG g0 T c1 f gg AH1 A0->Ahi op ks la c1 K->∃g1 x H A1 A2,g1.w=gg.w/\Le gg g1/\K x H/\VTR g1.I g1.w f la.vars x A1/\Fv g1 ks A2/\St g1.I g1.w (AH1++((A1++A2)++T))/\HR g1 H [] AH1 op:=λ{c1 gg AH1 A0}h1 hk1=>by
  obtain⟨g1,A',e1,e2,h3⟩:=Si la.vars h1;unfold Ahi at hk1;have fin:∀{r},Aeu (IC c1 la.vars).fr la.vars (IC c1 la.vars).sg=some r->(IC c1 la.vars).op=op->Yh ks r.2->K r.1 (IC c1 la.vars).H->∃g1 x H A1 A2,g1.w=gg.w/\Le gg g1/\K x H/\VTR g1.I g1.w f la.vars x A1/\Fv g1 ks A2/\St g1.I g1.w (AH1++((A1++A2)++T))/\HR g1 H [] AH1 op:=λ{r}hr ho hp hK=>by
   obtain⟨A1,A2,h4,h5,h6⟩:=Z5 h3.fr hr h3.sg;obtain⟨B1,B2,h7,h8⟩:=VE h6 hp;have hH:=h3.hr;rw[ho]at hH;refine⟨g1,r.1,_,A1,B1,e1,e2,hK,h5,h8,?_,HR.mono (Le.refl _) hH⟩;have hst:=h3.st.perm (((h4.trans (h7.append_left A1)).append_right T).append_left AH1);have:St g1.I g1.w ((AH1++(A1++B1))++(B2++T)):=by simpa [List.append_assoc] using hst
   simpa [List.append_assoc] using DD this
  split at hk1
  .rename_i r hr hop;exact fin hr hop hk1.1 hk1.2
  .rename_i r o o' hr hop;obtain⟨rfl,hp,hK⟩:=hk1;exact fin hr hop hp hK
  .exact hk1.elim
 unfold Acu at hk;split at hk
 .obtain⟨c1,g1,AH1,A1,hk,hw,hle,hr,_⟩:=D0 h hk;obtain⟨g2,x,H,B1,B2,k1,k2,k3⟩:=key hr hk;exact⟨g2,x,H,AH1,B1,B2,k1.trans hw,hle.trans k2,k3⟩
 .obtain⟨g2,x,H,B1,B2,k1,k2,k3⟩:=key h hk;exact⟨g2,x,H,AH,B1,B2,k1,k2,k3⟩
theorem Ane{g0 g1:B3}{T AH AH1 A1 A2 A0:Bh}{c:Cf Y}{f f1:Fr}(h:RG g0 T c f g AH A){la:LA}{ks:List (Nat×C6 Y)}(hk0:Fv g ks A0)(hle:Ext g.I g.w g1.I g1.w)(hgn:g.n<=g1.n)(hμ:∀i,i<g.n->g1.μ i=g.μ i)(hφ:∀t,Lt t (la.BA++c.pt)=true->f1 t=f t){T':Bh}{x:VT Y la.vars}{H:HH Y}(hv:VTR g1.I g1.w f1 la.vars x A1)(hk:Fv g1 ks A2)(hst:St g1.I g1.w (AH1++((A1++A2)++T')))(hH:HR g1 H [] AH1 c.op)(hop:∀o,c.op=some o->o.i<g.n):∃g2,g2.w=g1.w/\g2.φ=f/\g2.I=g1.I/\Lx g g2/\RG g0 T' (hdK c ks la x H) f1 g2 AH1 (A1++A2):=by
 let gb:B3:={I:=g1.I,w:=g1.w,n:=g.n,μ:=g1.μ,φ:=f}
 obtain⟨g2,a1,a2,a3,a4,a5,a6⟩:=YY (g:=gb) (fr:=c.fr) (kp:=la.BA) (λt i hi=>by
  unfold rnm at hi;split at hi
  .rename_i j hk ha;injection hi with hi
   subst hi;obtain⟨k1,k2⟩:=h.fr t _ ha;exact⟨k1,by show g1.μ j=f1 t;rw[hμ j k1,<-k2,hφ t (OB hk)]⟩
  .cases hi) hv
 have hn:gb.n=c.nx:=h.n;rw[hn]at a4 a5 a6;have hle2:Le {g with φ:=f} g2:=⟨by rw[a3,a2];exact hle,a1.n,λi hi=>by rw[a1.μ i hi];exact hμ i hi,a1.φ⟩
 refine⟨g2,a2,a1.φ,a3,⟨hle2.ext,hle2.n,hle2.μ⟩,a4,by rw[a3,a2];exact h.le.trans hle,by rw[a3,a2];exact hst,?_,a6.app (Fv.chg (g0:=g) (g:=g1) a3 a2 a1.n (λi hi=>a1.μ i hi) hk0 hk),λy hy=>⟨Nat.lt_of_lt_of_le (h.hs y hy).1 hle2.n,by rw[hle2.μ _ (h.hs y hy).1];exact(h.hs y hy).2⟩,λt ht=>by rw[a1.φ];exact hφ t ht,λi a hi=>?_⟩
 .show HR g2 H _ AH1 c.op;cases ho:c.op with
  |none=>
   rw[ho]at hH;show Hk _ _ _ _ _;rw[a3,a2];exact hH
  |some o=>
   rw[ho]at hH;obtain⟨k1,k2,k3,k4⟩:=hH;have hlt:=hop o ho;exact⟨by rw[a3,a2];exact k1,k2,Nat.lt_of_lt_of_le hlt a1.n,by rw[a1.μ _ hlt];exact k4⟩
 rcases Zz hi with hi|hi
 .exact a5 i a hi
 .obtain⟨h1,h2⟩:=VH hi;rw[hφ i (OB h2)];have:=(h.fr i a h1)
  exact AR.mono (g:={g with φ:=f}) hle2 (by cases a<;>exact this)
end
end
section
section
variable {Y:Sys}
variable {g0 g:B3} {T AH A:Bh} {c:Cf Y} {f:Fr}
theorem RG.world{T':Bh}(h:RG g0 T c f g AH A){w':World}(e:Ext g.I g.w g.I w')(hst:St g.I w' (AH++(A++T'))):Le g {g with w:=w'}/\RG g0 T' c f {g with w:=w'} AH A:=by
 have hle:Le g {g with w:=w'}:=⟨e,Nat.le_refl _,λ_ _=>rfl,rfl⟩
 exact⟨hle,h.n,h.le.trans e,hst,h.hr.mono hle,h.sg.mono hle,h.hs.mono hle,hle.pt h.pt,λi a hi=>(h.fr i a hi).mono hle⟩
theorem RG.Anw{B:Bh}(h:RG g0 (B++T) c f g AH A):RG g0 T c f g AH A:=
 ⟨h.n,h.le,by
  have h1:St g.I g.w ((AH++A)++(B++T)):=by have:=h.st;rwa [List.append_assoc]
  have h2:=DD h1;rwa [List.append_assoc]at h2,h.hr,h.sg,h.hs,h.pt,h.fr⟩
def rmF(t:Nat):List (Nat×AV Y)->List (Nat×AV Y)
 | []=>[]
 |p::l=>match Nat.beq p.1 t with
  |true=>rmF t l
  |false=>p::rmF t l
theorem Ad7{t:Nat}{a:AV Y}{i:Nat}:∀{l:List (Nat×AV Y)},Hu (rmF t l) i=some a->i≠t/\Hu l i=some a
 | [],h=>by simp [rmF,Hu]at h
 |p::l,h=>by
  unfold rmF at h;split at h
  .rename_i hp;have hp:=Nat.eq_of_beq_eq_true hp;obtain⟨h1,h2⟩:=Ad7 h;exact⟨h1,by rw[Hu,if_neg (λe=>h1 (by omega))];exact h2⟩
  .rename_i hp;have hp:p.1≠t:=λe=>by rw[e]at hp;simp at hp
   unfold Hu at h ⊢;by_cases e:p.1=i
   .rw[if_pos e]at h ⊢;exact⟨λe'=>hp (by omega),h⟩
   .rw[if_neg e]at h ⊢;exact Ad7 h
theorem RG.rm{N t:Nat}{v:Value}(h:RG g0 T c f g AH A)(ht:Lt t c.pt=false):RG g0 T {c with fr:=rmF t c.fr} (X.put N f (some t) v) g AH A:=by
 refine⟨h.n,h.le,h.st,h.hr,h.sg,h.hs,λj hj=>?_,λi a hi=>?_⟩
 .have hne:j≠t:=λe=>by subst e;rw[show Lt j c.pt=true from hj]at ht;cases ht
  show (if j=t then _ else f j)=_;rw[if_neg hne];exact h.pt j hj
 .obtain⟨h1,h2⟩:=Ad7 hi;show AR g a (if i=t then _ else f i);rw[if_neg h1];exact h.fr i a h2
variable {es:Array MapEntry} {seen:Array Nat}
theorem Ab1{b:Nat}:(leftOf es (seen.push b)).toList=(leftOf es seen).toList.filter λx=>x.born != b:=by unfold leftOf;simp only[Array.toList_filter,List.filter_filter];refine List.filter_congr λx _=>?_;by_cases h:x.born=b<;>simp [h,Bool.and_comm,bne]
def ItR(k e:Ty)(I:BY)(w:World)(es:Array MapEntry)(seen:Array Nat)(left:List (den Y.D k×den Y.D e)):Prop:=∃l:List MapEntry,l.Perm (leftOf es seen).toList/\F2 (λ(x:MapEntry)(p:den Y.D k×den Y.D e)=>rp Y.toUS k I w x.key p.1/\rp Y.toUS e I w x.val p.2) l left
theorem ItR.mono{k e:Ty}{I I':BY}{w w':World}{es:Array MapEntry}{seen:Array Nat}{left:List (den Y.D k×den Y.D e)}(h:ItR k e I w es seen left)(x:Ext I w I' w'):ItR k e I' w' es seen left:=by obtain⟨l,h1,h2⟩:=h;exact⟨l,h1,h2.mono λ_ _ r=>⟨EX x r.1,EX x r.2⟩⟩
theorem ItR.nil{k e:Ty}{I:BY}{w:World}{es:Array MapEntry}{seen:Array Nat}{left:List (den Y.D k×den Y.D e)}(h:ItR k e I w es seen left)(h0:(leftOf es seen).size=0):left=[]:=by
 obtain⟨l,h1,h2⟩:=h;have:l.length=0:=by rw[h1.length_eq];simpa using h0
 have h3:=h2.len;exact List.length_eq_zero_iff.1 (by omega)
variable {k e:Ty}
theorem ItR.start{I:BY}{w:World}{m:List (den Y.D k×den Y.D e)}(hl:es.toList.length=m.length)(hr:∀j(h:j<es.toList.length)(h':j<m.length),rp Y.toUS k I w es.toList[j].key m[j].1/\rp Y.toUS e I w es.toList[j].val m[j].2):ItR k e I w es #[] m:=by
 refine⟨es.toList,by rw[Amz],?_⟩;generalize es.toList=l at hl hr;induction l generalizing m with
 |nil=>cases m with
  |nil=>exact .nil
  |cons=>simp at hl
 |cons x l ih=>cases m with
  |nil=>simp at hl
  |cons p m=>exact .cons (hr 0 (by simp) (by simp)) (ih (by simpa using hl) λj h1 h2=>hr (j+1) (by simpa using h1) (by simpa using h2))
theorem F2.split{α β:Type}{R:α->β->Prop}{x:α}{l2:List α}:∀{l1:List α}{m:List β},F2 R (l1++x::l2) m->∃m1 p m2,m=m1++p::m2/\R x p/\F2 R (l1++l2) (m1++m2)
 | [],m,h=>by cases h with
  |cons h1 h2=>exact⟨[],_,_,rfl,h1,h2⟩
 |y::l1,m,h=>by cases h with
  |cons h1 h2=>
   obtain⟨m1,p,m2,e,h3,h4⟩:=F2.split h2
   exact⟨_::m1,p,m2,by rw[e];rfl,h3,.cons h1 h4⟩
theorem ItR.step{I:BY}{w:World}{left:List (den Y.D k×den Y.D e)}(h:ItR k e I w es seen left)(hn:(es.toList.map (·.born)).Nodup){x:MapEntry}(hx:x∈(leftOf es seen).toList):∃l1 p l2,left=l1++p::l2/\rp Y.toUS k I w x.key p.1/\rp Y.toUS e I w x.val p.2/\ItR k e I w es (seen.push x.born) (l1++l2):=by
 obtain⟨l,h1,h2⟩:=h;obtain⟨a,b,rfl⟩:=List.append_of_mem (h1.mem_iff.2 hx);obtain⟨m1,p,m2,rfl,h3,h4⟩:=F2.split h2;refine⟨m1,p,m2,rfl,h3.1,h3.2,a++b,?_,h4⟩;rw[Ab1];have hsub:(leftOf es seen).toList.Sublist es.toList:=by unfold leftOf;rw[Array.toList_filter];exact List.filter_sublist
 have hnd:((a++x::b).map (·.born)).Nodup:=(h1.map _).nodup_iff.2 (hn.sublist (hsub.map _));have hf:=h1.filter λy=>y.born != x.born;have key:∀y∈a++b,(y.born != x.born)=true:=λy hy=>by
  rw[List.map_append,List.map_cons,List.nodup_append]at hnd;simp only[List.nodup_cons]at hnd;have hne:y.born≠x.born:=λe=>by
   rcases List.mem_append.1 hy with hy|hy
   .exact hnd.2.2 y.born (List.mem_map_of_mem hy) x.born (by simp) e
   .exact hnd.2.1.1 (e▸List.mem_map_of_mem hy)
  simpa using hne
 have e1:(a++x::b).filter (λy=>y.born != x.born)=a++b:=by rw[List.filter_append,List.filter_cons];simp only[bne_self_eq_false,Bool.false_eq_true,if_false];rw[<-List.filter_append,List.filter_eq_self.2 key]
 rw[e1]at hf;exact hf
theorem ItR.mem{x:MapEntry}(hx:x∈(leftOf es seen).toList):x∈es.toList:=by unfold leftOf at hx;rw[Array.toList_filter]at hx;exact(List.mem_filter.1 hx).1
structure Y3 where
 bid:Nat
 id1:Nat
 tn:Nat
 te:Nat
 it:Nat
 m1:TypeId×String×Array Edge
 m2:TypeId×String×Array Edge
 b1:Nat
 id2:Nat
 dn:Nat
 m3:TypeId×String×Array Edge
 os:List Oper
 rest:Code
def Y3.Ayz(i:Y3):Array Oper:=⟨[⟨some i.tn,.next (.tmp i.it) false,i.m1.1,i.m1.2.1,i.m1.2.2,none⟩,⟨some i.te,.extract (.tmp i.tn) 0,i.m2.1,i.m2.2.1,i.m2.2.2,none⟩]⟩
def Y3.Ayy(i:Y3):Array Oper:=⟨⟨some i.dn,.entry (.tmp i.it),i.m3.1,i.m3.2.1,i.m3.2.2,none⟩::i.os⟩
def Y3.body(i:Y3):Code:=.seq (.region i.id1 i.Ayz false) (.seq (.cond (.tmp i.te) .skip (.exit i.bid)) (.block i.b1 (.seq (.region i.id2 i.Ayy false) i.rest)))
def Y3.code(i:Y3):Code:=.block i.bid (.loop i.body)
def mrP:Code->Option Y3
 | .block bid (.loop (.seq (.region id1 ⟨[⟨some tn,.next (.tmp it) false,x1,x2,x3,none⟩,⟨some te,.extract (.tmp tn') 0,y1,y2,y3,none⟩]⟩ false) (.seq (.cond (.tmp te') .skip (.exit bid')) (.block b1 (.seq (.region id2 ⟨⟨some dn,.entry (.tmp it'),z1,z2,z3,none⟩::os⟩ false) rest)))))=>
  if bid'=bid/\tn'=tn/\te'=te/\it'=it then some ⟨bid,id1,tn,te,it,(x1,x2,x3),(y1,y2,y3),b1,id2,dn,(z1,z2,z3),os,rest⟩ else none
 |_=>none
theorem Avq{b:Code}{i:Y3}(h:mrP b=some i):b=i.code:=by
 unfold mrP at h;split at h
 .split at h
  .rename_i h1;obtain⟨rfl,rfl,rfl,rfl⟩:=h1;cases h;rfl
  .cases h
 .cases h
def Jk(c:Cf Y)(la:LA):List (Nat×C6 Y):=match Aeu (IC c la.vars).fr la.vars (IC c la.vars).sg with
 |some r=>r.2
 |none=>[]
def As7(E:Env Y)(i:Y3)(la:LA)(c:Cf Y):Bool:=
 Lt i.it (la.BA++c.pt)&&!Lt i.tn (la.BA++c.pt)&&!Lt i.te (la.BA++c.pt)&&Nat.blt i.tn E.N&&Nat.blt i.te E.N&&!Nat.beq i.tn i.te&&!Nat.beq i.b1 i.bid&&!Lt i.it (la.vars.map (·.1))
def mrB(E:Env Y)(i:Y3)(la:LA)(k e:Ty)(m:List (den Y.D k×den Y.D e))(c:Cf Y)(nx rt:Cf Y->Prop):Prop:=
 Fu (As7 E i la c) (Yh (Jk c la) c.sg/\∃V:List (den Y.D k×den Y.D e)->VT Y la.vars->HH Y->Prop,Acu c.op (Jk c la) la c (V m)/\∀left x H,V left x H->
  (left=[]->nx {hdK c (Jk c la) la x H with fr:=(i.te,.val (.bool false))::rmF i.te (rmF i.tn (hdK c (Jk c la) la x H).fr),pt:=c.pt})/\
  ∀l1 p l2,left=l1++p::l2->
   Cf.put {hdK c (Jk c la) la x H with fr:=(i.te,.val (.bool true))::rmF i.te (rmF i.tn (hdK c (Jk c la) la x H).fr),sg:=((hdK c (Jk c la) la x H).nx,.tp [.dat k p.1,.dat e p.2])::(hdK c (Jk c la) la x H).sg,nx:=(hdK c (Jk c la) la x H).nx+1} E.N (some i.dn) (.own (hdK c (Jk c la) la x H).nx)
    λc3=>UJ E i.Ayy i.os c3 λc4=>TD E i.rest c4 {nx:=λc'=>Fu (NQ (la.BA++c.pt) c'.pt) (Acu c.op (Jk c la) la c' (V (l1++l2))),ex:=[(i.b1,λc'=>Fu (NQ (la.BA++c.pt) c'.pt) (Acu c.op (Jk c la) la c' (V (l1++l2)))),(i.bid,wr c.pt nx)],rt:=rt})
theorem Agp{E:Env Y}{fn:FK}{gb:B3}{R:Qy->World->Prop}{i:Y3}{la:LA}{m:List (den Y.D k×den Y.D e)}{nx rt:Cf Y->Prop}{td:List Item}{r mb cl:Nat}{l0:Array Nat}(hR:GC g0 T E.X (fn.at R))(hb:Lx gb g)(h:RG g0 ([(r,.mapIter (some mb) cl #[] cl)]++([(mb,.map es cl)]++T)) c f g AH A)(hit:f i.it=.pointer (some ⟨r,0,none⟩))(hbo:(es.toList.map (·.born)).Nodup/\∀e∈es.toList,e.born<cl)(hI:ItR k e g.I g.w es #[] m)(hx:mrB E i la k e m c nx rt)(hnx:∀c f g' AH A,g'.φ=g.φ->Lx gb g'->RG g0 ([(mb,.map es cl)]++T) c f g' AH A->nx c->WT Y.P fn E.N td R f g'.w)(hrt:∀c f g' AH A k',Lx gb g'->RG g0 ([(mb,.map es cl)]++T) c f g' AH A->rt c->WT Y.P fn E.N (.code .ret::k') R f g'.w):WT Y.P fn E.N (.code i.code::td) R f g.w:=by
 obtain⟨hc,hkp,V,hV0,hstep⟩:=AM hx;unfold As7 at hc;simp only[Bool.and_eq_true,Bool.not_eq_true']at hc;obtain⟨⟨⟨⟨⟨⟨⟨q1,q2⟩,q3⟩,q4⟩,q5⟩,q6⟩,q7⟩,q8⟩:=hc;have hop:∀o,c.op=some o->o.i<g.n:=λo ho=>by have:=h.hr;rw[ho]at this;exact this.2.2.1
 obtain⟨K1,K2,_,hks0⟩:=VE h.sg hkp;generalize Jk c la=ks at hV0 hstep hks0;refine KE (Y8 (λn f' w'=>∃left x H seen g2 AH2 A2,left.length=n/\g2.w=w'/\g2.φ=f/\Lx g g2/\V left x H/\ItR k e g2.I g2.w es seen left/\RG g0 ([(r,.mapIter (some mb) cl seen cl)]++([(mb,.map es cl)]++T)) (hdK c ks la x H) f' g2 AH2 A2) m.length ?_ ?_)
 .obtain⟨g1,x,H,AH1,A1,A2,e1,e2,e3,e4,e5,e6,e7⟩:=Ahh h hV0;obtain⟨g2,k1,k2,k3,k4,k5⟩:=Ane h hks0 e2.ext e2.n e2.μ (λ_ _=>rfl) e4 e5 e6 e7 hop;exact⟨m,x,H,#[],g2,AH1,_,rfl,k1.trans e1,k2,k4,e3,by rw[k3,k1];exact hI.mono e2.ext,k5⟩
 .rintro n f' w' ⟨left,x,H,seen,g2,AH2,A2,rfl,rfl,hφ,hlx,hV,hIt,hr⟩ ih;obtain⟨hz,hs⟩:=hstep left x H hV;have fit:f' i.it=.pointer (some ⟨r,0,none⟩):=by rw[hr.pt i.it q1,hφ,hit]
  have hpm:∀X:Bh,(AH2++(A2++(X++T))).Perm (X++(AH2++(A2++T))):=λX=>by refine((List.perm_append_comm_assoc A2 X T).append_left AH2).trans ?_;exact List.perm_append_comm_assoc AH2 X (A2++T)
  have st0:St g2.I g2.w ([(r,.mapIter (some mb) cl seen cl)]++([(mb,.map es cl)]++(AH2++(A2++T)))):=by have:=hr.st.perm (hpm ([(r,.mapIter (some mb) cl seen cl)]++[(mb,.map es cl)]));exact this
  have sl:∀{T':Bh}{c':Cf Y}{f1:Fr}{g':B3}{AH' A':Bh}(b:Bool)(v:Value),c'.pt=la.BA++c.pt->RG g0 T' c' f1 g' AH' A'->RG g0 T' {c' with fr:=(i.te,.val (.bool b))::rmF i.te (rmF i.tn c'.fr)} (X.put E.N (X.put E.N f1 (some i.tn) v) (some i.te) (.bool b)) g' AH' A':=λ{T' c' f1 g' AH' A'}b v hp h1=>by have h2:=(h1.rm (N:=E.N) (t:=i.tn) (v:=v) (by rw[hp];exact q2)).rm (N:=E.N) (t:=i.te) (v:=.bool b) (by show Lt _ c'.pt=false;rw[hp];exact q3);refine h2.cons (d:=i.te) (a:=.val (.bool b)) ?_;show _=Value.bool b;have:i.te<E.N:=Nat.le_of_ble_eq_true q5;simp [X.put,DO,this]
  have ext0:∀(b:Bool)(vs:List Value)(f1:Fr)(w1:World)(Q:Fr->World->Prop),Q (X.put E.N (X.put E.N f1 (some i.tn) (.tuple ⟨.bool b::vs⟩)) (some i.te) (.bool b)) w1->WL Y.P E.N i.Ayz (fn.at R) false Q [⟨some i.te,.extract (.tmp i.tn) 0,i.m2.1,i.m2.2.1,i.m2.2.2,none⟩] (X.put E.N f1 (some i.tn) (.tuple ⟨.bool b::vs⟩)) w1:=λb vs f1 w1 Q hQ=>by
   refine Ay (v:=.bool b) ?_ hQ;have hlt:i.tn<E.N:=Nat.le_of_ble_eq_true q4;have:ev (X.put E.N f1 (some i.tn) (.tuple ⟨.bool b::vs⟩)) (.tmp i.tn)=.tuple ⟨.bool b::vs⟩:=by show X.put E.N f1 (some i.tn) _ i.tn=_;simp [X.put,DO,hlt]
   simp [execOp,Instr.extract,this]
  have tev:∀(b:Bool)(f1:Fr),ev (X.put E.N f1 (some i.te) (.bool b)) (.tmp i.te)=.bool b:=λb f1=>by have hlt:i.te<E.N:=Nat.le_of_ble_eq_true q5;show X.put E.N f1 (some i.te) _ i.te=_;simp [X.put,DO,hlt]
  have exf:exitTo i.bid (.inLoop i.body::.inBlock i.bid::td)=some td:=by simp [exitTo]
  have hptK:∀t,Lt t c.pt=true->f t=g.φ t:=h.pt;have out:∀{c':Cf Y}{f1:Fr}{g':B3}{AH' A':Bh},g'.φ=f->Lx g g'->RG g0 ([(mb,.map es cl)]++T) c' f1 g' AH' A'->NQ c.pt c'.pt=true->nx {c' with pt:=c.pt}->WT Y.P fn E.N td R f1 g'.w:=λ{c' f1 g' AH' A'}hf hl h1 hsub hq=>
   hnx _ f1 {g' with φ:=g.φ} AH' A' rfl (hb.trans ⟨hl.ext,hl.n,hl.μ⟩) (h1.Zf λt ht=>by rw[h1.pt t (Pj hsub ht),hf];exact hptK t ht) hq
  refine D8 (CK ?_);refine Ava st0 hbo.2 fit (λh0=>?_) λx' hx' w' e' s'=>?_
  .have hl:=hIt.nil h0;refine ext0 false [] f' g2.w _ ?_;refine D8 (NZ (tev false _) (U1 (k':=td) (by simp [exitTo]) ?_));have h1:=sl false (.tuple ⟨.bool false::[]⟩) rfl hr.Anw;exact out hφ hlx h1 (by unfold NQ;rw[List.all_eq_true];exact λt ht=>Tz (Z3.2 ht)) (hz hl)
  .obtain⟨l1,p,l2,hleft,hk,he,hIt'⟩:=hIt.step hbo.1 hx';have hs':=hs l1 p l2 hleft;refine ext0 true [x'.key,x'.val] f' w' _ ?_;refine D8 (Rn (tev true _) (Ro (KE ?_)));have hst2:St g2.I w' (AH2++(A2++([(r,.mapIter (some mb) cl (seen.push x'.born) cl)]++([(mb,.map es cl)]++T)))):=by have:=s'.perm (hpm ([(r,.mapIter (some mb) cl (seen.push x'.born) cl)]++[(mb,.map es cl)])).symm;exact this
   obtain⟨hle3,h3⟩:=hr.world e' hst2;have h4:=sl true (.tuple ⟨[.bool true,x'.key,x'.val]⟩) rfl h3;generalize hf2:X.put E.N (X.put E.N f' (some i.tn) (.tuple ⟨[.bool true,x'.key,x'.val]⟩)) (some i.te) (.bool true)=f2 at h4 ⊢;have fit2:f2 i.it=.pointer (some ⟨r,0,none⟩):=by have:=h4.pt i.it q1;rw[this];show g2.φ i.it=_;rw[hφ,hit]
   generalize hg3:({g2 with w:=w'}:B3)=g3 at hle3 h4;have hw3:g3.w=w':=by rw[<-hg3]
   have hI3:g3.I=g2.I:=by rw[<-hg3]
   have hφ3:g3.φ=f:=by rw[<-hg3];exact hφ
   have e3:Ext g2.I g2.w g3.I g3.w:=hle3.ext;have hst3:St g3.I g3.w ([(r,.mapIter (some mb) cl (seen.push x'.born) cl)]++([(mb,.map es cl)]++(AH2++(A2++T)))):=by rw[hw3,hI3];exact s'
   have hle4:Le g3 (g3.new g3.w (.tuple #[x'.key,x'.val])):=Le.new (Ext.refl _ _);have h5:=h4.new (w':=g3.w) (v:=.tuple #[x'.key,x'.val]) (s:=.tp [.dat k p.1,.dat e p.2]) (A1:=[]) (Ext.refl _ _) ⟨rfl,[x'.key,x'.val],g3.B7 _ _,.cons (show rp Y.toUS k _ _ _ _ from EX (e3.trans hle4.ext) hk) (.cons (show rp Y.toUS e _ _ _ _ from EX (e3.trans hle4.ext) he) .nil)⟩ h4.st;have hown:AR (Y:=Y) (g3.new g3.w (.tuple #[x'.key,x'.val])) (.own (hdK c ks la x H).nx) (.tuple #[x'.key,x'.val]):=FX h4.n;obtain⟨c3,g4,k1,k2,k3,k4,k5⟩:=h5.put (N:=E.N) (dst:=some i.dn) hown hs';rw[<-hw3];refine D8 (CK (Aql hst3 (ItR.mem hx') hbo.1 fit2 ?_));have hw4:g4.w=g3.w:=k2;rw[<-hw4];have hlx4:Lx g g4:=hlx.trans ((hle3.trans hle4).trans k4).lx;have hR':GC g0 ([(r,.mapIter (some mb) cl (seen.push x'.born) cl)]++([(mb,.map es cl)]++T)) E.X (fn.at R):=λv w2 I' AH' H' t l u p1 p2 p3 p4 p5 p6=>hR v w2 I' AH' H' t l u p1 (by have:=DD (A:=AH') (B:=[(r,.mapIter (some mb) cl (seen.push x'.born) cl)]) p2;exact DD (A:=AH') (B:=[(mb,.map es cl)]) this) p3 p4 p5 p6
   have hφ4:g4.φ=f:=by rw[k4.φ];exact hφ3
   have hIt4:∀{g5:B3},Lx g4 g5->ItR k e g5.I g5.w es (seen.push x'.born) (l1++l2):=λ{g5}hl5=>hIt'.mono (((hle3.trans hle4).trans k4).ext.trans hl5.ext);have back:∀{c':Cf Y}{f5:Fr}{g5:B3}{AH5 A5:Bh},g5.φ=f->Lx g4 g5->RG g0 ([(r,.mapIter (some mb) cl (seen.push x'.born) cl)]++([(mb,.map es cl)]++T)) c' f5 g5 AH5 A5->Fu (NQ (la.BA++c.pt) c'.pt) (Acu c.op ks la c' (V (l1++l2)))->WT Y.P fn E.N (.inLoop i.body::.inBlock i.bid::td) R f5 g5.w:=λ{c' f5 g5 AH5 A5}hf hl5 h6 hq=>by obtain⟨hsub,hq⟩:=AM hq;obtain⟨g6,y,H6,AH6,B1,B2,e1,e2,e3,e4,e5,e6,e7⟩:=Ahh h6 hq;have hl6:Lx g g6:=(hlx4.trans hl5).trans e2.lx;obtain⟨g7,k1,k2,k3,k4,k5⟩:=Ane h hks0 hl6.ext hl6.n hl6.μ (λt ht=>by rw[h6.pt t (Pj hsub ht),hf]) e4 e5 e6 e7 hop;have hit7:=hIt4 (hl5.trans e2.lx);exact ih.out (l1++l2).length f5 g5.w (by rw[hleft];simp) ⟨l1++l2,y,H6,seen.push x'.born,g7,AH6,_,rfl,k1.trans e1,k2,k4,e3,by rw[k3,k1];exact hit7,k5⟩
   refine Rm hR' i.os k5 k1 λc5 f5 g5 AH5 A5 hle5 h6 hq5=>?_;refine GB (E:=E) (fn:=fn) (gb:=g4) hR' i.rest (ks:={nx:=λc'=>Fu (NQ (la.BA++c.pt) c'.pt) (Acu c.op ks la c' (V (l1++l2))),ex:=[(i.b1,λc'=>Fu (NQ (la.BA++c.pt) c'.pt) (Acu c.op ks la c' (V (l1++l2)))),(i.bid,wr c.pt nx)],rt:=rt}) ⟨?_,?_,?_⟩ hle5.lx h6 hq5
   .exact λc' f' g' AH' A' hf hl5 h6 hq=>KD (back (by rw[hf,hle5.φ,hφ4]) hl5 h6 hq)
   .intro id q hq;simp only[Z0]at hq;by_cases he1:i.b1=id
    .rw[if_pos he1]at hq;cases hq;subst he1;exact⟨_,by simp [exitTo],λc' f' g' AH' A' hf hl5 h6 hq=>back (by rw[hf,hle5.φ,hφ4]) hl5 h6 hq⟩
    .rw[if_neg he1]at hq;by_cases he2:i.bid=id
     .rw[if_pos he2]at hq;cases hq;subst he2;refine⟨td,by simp [exitTo,he1],λc' f' g' AH' A' hf hl5 h6 hq=>?_⟩;obtain⟨hsub,hq⟩:=AM hq;exact out (by rw[hf,hle5.φ,hφ4]) (hlx4.trans hl5) h6.Anw hsub hq
     .rw[if_neg he2]at hq;cases hq
   .exact λc' f' g' AH' A' k' hl5 h6 hq=>hrt _ _ _ _ _ _ (hb.trans (hlx4.trans hl5)) h6.Anw hq
end
end
section
structure RgO where
 d:Nat
 t:TypeId
 x:Operand
 ty:TypeId
 pos:String
 af:Array Edge
def RgO.op(r:RgO):Oper:=⟨some r.d,.range r.t r.x,r.ty,r.pos,r.af,none⟩
def rgL:List Oper->Option (List Oper×RgO)
 | []=>none
 |o::os=>match os with
  | []=>match o with
   |⟨some d,.range t x,ty,pos,af,none⟩=>some ([],⟨d,t,x,ty,pos,af⟩)
   |_=>none
  |_::_=>match rgL os with
   |some r=>some (o::r.1,r.2)
   |none=>none
theorem Alh:∀{l:List Oper}{r:List Oper×RgO},rgL l=some r->l=r.1++[r.2.op]
 | [],r,h=>by simp [rgL]at h
 |o::os,r,h=>by
  unfold rgL at h;split at h
  .split at h
   .cases h;rfl
   .cases h
  .split at h
   .rename_i r' hr;cases h;rw[Alh hr];rfl
   .cases h
def mrC(a b:Code):Option (Nat×Array Oper×(List Oper×RgO)×Y3):=match a with
 | .region id ops false=>match rgL ops.toList,mrP b with
  |some r,some i=>some (id,ops,r,i)
  |_,_=>none
 |_=>none
theorem Avs{a b:Code}{q:Nat×Array Oper×(List Oper×RgO)×Y3}(h:mrC a b=some q):a=.region q.1 q.2.1 false/\q.2.1.toList=q.2.2.1.1++[q.2.2.1.2.op]/\b=q.2.2.2.code:=by
 unfold mrC at h;split at h
 .split at h
  .rename_i r i h1 h2;cases h;exact⟨rfl,Alh h1,Avq h2⟩
  .cases h
 .cases h
section
variable {Y:Sys}
theorem Adu{P:Program}{N:Nat}{ops:Array Oper}{R:List PanicEntry->World->Prop}{m:Bool}{K:Fr->World->Prop}{l2:List Oper}:∀{l1:List Oper}{f:Fr}{w:World},WL P N ops R m (λf w=>WL P N ops R m K l2 f w) l1 f w->WL P N ops R m K (l1++l2) f w
 | [],f,w,h=>h
 |o::l1,f,w,h=>by
  simp only[List.cons_append,WL]at h ⊢;split at h
  .rename_i hw;rw[if_pos hw];exact h.mono λv w' h=>Adu h
  .rename_i hw;rw[if_neg hw];exact Adu h
def mrD(E:Env Y)(q:RgO)(i:Y3)(c:Cf Y):Bool:=!Lt q.d c.pt&&Nat.blt q.d E.N&&Nat.beq q.d i.it
def mrE(E:Env Y)(q:RgO)(i:Y3)(c:Cf Y)(nx rt:Cf Y->Prop):Prop:=match QP Y.P q.t,Ey c q.x,lkA E.lp i.id1 with
 |some (kt,et),some (.own j),some la=>match HG c.sg j with
  |some (.mp k e m)=>Fu (mrD E q i c) (mrB E i la k e m {c.E4 with fr:=rmF q.d c.fr,sg:=Gb c.sg j} (λc'=>nx {c' with sg:=(j,.mp k e m)::c'.sg}) λc'=>rt {c' with sg:=(j,.mp k e m)::c'.sg})
  |_=>False
 |some (kt,et),some (.dat .mref p),some la=>match Y.ty kt,Y.ty et with
  |some k,some e=>cls c λc=>Fu (mrD E q i c) (∃b,p=some b/\∃m,c.H b=some (.mp k e m)/\mrB E i la k e m {c with fr:=rmF q.d c.fr,H:=Cs c.H b} (λc'=>cls c' λc'=>nx {c' with H:=Ac c'.H b (.mp k e m)}) λc'=>cls c' λc'=>rt {c' with H:=Ac c'.H b (.mp k e m)})
  |_,_=>False
 |_,_,_=>False
theorem Avr{E:Env Y}{fn:FK}{g0 g gb:B3}{T AH A:Bh}{R:Qy->World->Prop}{c:Cf Y}{f:Fr}{q:RgO}{i:Y3}{nx rt:Cf Y->Prop}{td:List Item}{ops:Array Oper}(hR:GC g0 T E.X (fn.at R))(hb:Lx gb g)(h:RG g0 T c f g AH A)(hx:mrE E q i c nx rt)(hnx:∀c f g' AH A,g'.φ=g.φ->Lx gb g'->RG g0 T c f g' AH A->nx c->WT Y.P fn E.N td R f g'.w)(hrt:∀c f g' AH A k',Lx gb g'->RG g0 T c f g' AH A->rt c->WT Y.P fn E.N (.code .ret::k') R f g'.w):WL Y.P E.N ops (fn.at R) false (WT Y.P fn E.N (.code i.code::td) R) [q.op] f g.w:=by
 unfold mrE at hx;split at hx
 .rename_i kt et j la hm ha hla;split at hx
  .rename_i k e m hs;obtain⟨hc,hx⟩:=AM hx;unfold mrD at hc;simp only[Bool.and_eq_true,Bool.not_eq_true',Nat.beq_eq]at hc;obtain⟨⟨q1,q2⟩,q3⟩:=hc;obtain⟨A1,A2,hp,hj,ho,hsg⟩:=h.sg.take hs;have hv:=(h.ev ha).2;obtain⟨b,es,cl,rfl,hvb,hl,hr⟩:=@C4.ex _ _ (RT Y.toUS k) (RT Y.toUS e) _ _ _ _ _ ho;have hbo:=@C4.bo _ _ (RT Y.toUS k) (RT Y.toUS e) _ _ _ _ _ ho b es cl rfl;have hst:St g.I g.w ([(b,.map es cl)]++(AH++(A2++T))):=h.st.perm (FH hp AH);refine Agh (Zv hm) hst (hv.trans hvb) λr w' e1 s1=>?_;have hst2:St g.I w' (AH++(A2++([(r,.mapIter (some b) cl #[] cl)]++([(b,.map es cl)]++T)))):=by
    refine s1.perm ?_;have hpm:∀X:Bh,(X++(AH++(A2++T))).Perm (AH++(A2++(X++T))):=λX=>by refine(List.perm_append_comm_assoc X AH (A2++T)).trans ?_;exact(List.perm_append_comm_assoc X A2 T).append_left AH
    exact hpm ([(r,.mapIter (some b) cl #[] cl)]++[(b,.map es cl)])
   have h1:RG g0 ([(r,.mapIter (some b) cl #[] cl)]++([(b,.map es cl)]++T)) {c.E4 with sg:=Gb c.sg j} f {g with w:=w'} AH A2:=by
    replace h:=h.E4;have hle:Le g {g with w:=w'}:=⟨e1,Nat.le_refl _,λ_ _=>rfl,rfl⟩
    exact⟨h.n,h.le.trans e1,hst2,h.hr.mono hle,hsg.mono hle,h.hs.mono hle,hle.pt h.pt,λi a hi=>(h.fr i a hi).mono hle⟩
   have h2:=h1.rm (N:=E.N) (t:=q.d) (v:=.pointer (some ⟨r,0,none⟩)) q1;have hlx:Lx g ({g with w:=w'}:B3):=⟨e1,Nat.le_refl _,λ_ _=>rfl⟩
   have rest:∀{c':Cf Y}{f':Fr}{g':B3}{AH' A':Bh},Lx ({g with w:=w'}:B3) g'->RG g0 ([(b,.map es cl)]++T) c' f' g' AH' A'->RG g0 T {c' with sg:=(j,.mp k e m)::c'.sg} f' g' AH' ([(b,.map es cl)]++A'):=λ{c' f' g' AH' A'}hl h3=>by
    refine⟨h3.n,h3.le,?_,?_,⟨[(b,.map es cl)],A',rfl,Nat.lt_of_lt_of_le hj hl.n,?_,h3.sg⟩,h3.hs,h3.pt,h3.fr⟩
    .have:=h3.st;refine this.perm (List.Perm.append_left AH' ?_);rw[List.append_assoc];exact List.perm_append_comm_assoc A' [(b,.map es cl)] T
    .have:=h3.hr;show HR _ _ _ _ c'.op;cases ho:c'.op with
     |none|some o=>rw[ho]at this;exact this
    .show WN Y k e _ _ _ (g'.μ j) m;have hmu:g'.μ j=g.μ j:=hl.μ j hj;rw[hmu];exact @C4.mono _ _ (RT Y.toUS k) (RT Y.toUS e) _ _ _ _ _ _ _ ho (hlx.trans hl).ext
   refine Agp (gb:={g with w:=w'}) (l0:=#[]) hR (Lx.refl _) h2 ?_ hbo ?_ hx (λc' f' g' AH' A' hf hl h3 hq=>?_) λc' f' g' AH' A' k' hl h3 hq=>?_
   .have hlt:q.d<E.N:=Nat.le_of_ble_eq_true q2;rw[<-q3];simp [X.put,DO,hlt]
   .exact(ItR.start hl hr).mono e1
   .exact hnx _ _ _ _ _ (by rw[hf]) (hb.trans (hlx.trans hl)) (rest hl h3) hq
   .exact hrt _ _ _ _ _ _ (hb.trans (hlx.trans hl)) (rest hl h3) hq
  .exact hx.elim
 .rename_i kt et p la hm ha hla;split at hx
  .rename_i k e hk he;obtain⟨c1,g1,AH1,A1,hx,hw,hle1,h1,_,hop⟩:=D0 h hx;rw[<-hw];obtain⟨hc,b,hp,m,hmp,hx⟩:=AM hx;unfold mrD at hc;simp only[Bool.and_eq_true,Bool.not_eq_true',Nat.beq_eq]at hc;obtain⟨⟨q1,q2⟩,q3⟩:=hc;have hH:=h1.hr;rw[hop]at hH;obtain⟨B1,B2,ho,hX,hst⟩:=Hk.take hH hmp h1.st;obtain⟨b',es,cl,rfl,hvb,hl,hr⟩:=@C4.ex _ _ (RT Y.toUS k) (RT Y.toUS e) _ _ _ _ _ ho;cases hvb;have hbo:=@C4.bo _ _ (RT Y.toUS k) (RT Y.toUS e) _ _ _ _ _ ho b es cl rfl;have hv:ev f q.x=.map (some b):=by have:=Ky.1 (h.ev ha);rw[this,hp]
   refine Agh (Zv hm) hst hv λr w' e1 s1=>?_;have hst2:St g1.I w' (B2++(A1++([(r,.mapIter (some b) cl #[] cl)]++([(b,.map es cl)]++T)))):=by
    refine s1.perm ?_;have hpm:∀X:Bh,(X++(B2++(A1++T))).Perm (B2++(A1++(X++T))):=λX=>by refine(List.perm_append_comm_assoc X B2 (A1++T)).trans ?_;exact(List.perm_append_comm_assoc X A1 T).append_left B2
    exact hpm ([(r,.mapIter (some b) cl #[] cl)]++[(b,.map es cl)])
   have hle2:Le g1 {g1 with w:=w'}:=⟨e1,Nat.le_refl _,λ_ _=>rfl,rfl⟩
   have hne:∀p∈B2,p.1≠b:=λp hp' e'=>by have hn:=hst.nodup;simp only[List.cons_append,List.nil_append,List.map_cons,List.nodup_cons]at hn;exact hn.1 (by rw[List.map_append];exact List.mem_append_left _ (e'▸List.mem_map_of_mem hp'))
   have h2:RG g0 ([(r,.mapIter (some b) cl #[] cl)]++([(b,.map es cl)]++T)) {c1 with H:=Cs c1.H b} f {g1 with w:=w'} B2 A1:=by refine⟨h1.n,h1.le.trans e1,hst2,?_,h1.sg.mono hle2,h1.hs.mono hle2,hle2.pt h1.pt,λi a hi=>(h1.fr i a hi).mono hle2⟩;show HR _ _ _ _ c1.op;rw[hop];exact Hk.mono (Sg hX hne) e1
   have h3:=h2.rm (N:=E.N) (t:=q.d) (v:=.pointer (some ⟨r,0,none⟩)) q1;have hlx:Lx g ({g1 with w:=w'}:B3):=hle1.lx.trans hle2.lx;have rest:∀{c':Cf Y}{f':Fr}{g':B3}{AH' A':Bh},c'.op=none->Lx ({g1 with w:=w'}:B3) g'->RG g0 ([(b,.map es cl)]++T) c' f' g' AH' A'->RG g0 T {c' with H:=Ac c'.H b (.mp k e m)} f' g' ([(b,.map es cl)]++AH') A':=λ{c' f' g' AH' A'}hop' hl h4=>by
    refine⟨h4.n,h4.le,?_,?_,h4.sg,h4.hs,h4.pt,h4.fr⟩
    .have:=h4.st;refine this.perm ?_;rw[List.append_assoc];refine(List.Perm.append_left AH' (List.perm_append_comm_assoc A' [(b,.map es cl)] T)).trans ?_;exact List.perm_append_comm_assoc AH' [(b,.map es cl)] (A'++T)
    .have hH':=h4.hr;rw[hop']at hH';show HR _ _ _ _ c'.op;rw[hop'];refine Hk.new (A1:=[(b,.map es cl)]) hH' ?_;exact @C4.mono _ _ (RT Y.toUS k) (RT Y.toUS e) _ _ _ _ _ _ _ ho (hle2.lx.trans hl).ext
   refine Agp (gb:={g1 with w:=w'}) (l0:=#[]) hR (Lx.refl _) h3 ?_ hbo ?_ hx (λc' f' g' AH' A' hf hl h4 hq=>?_) λc' f' g' AH' A' k' hl h4 hq=>?_
   .have hlt:q.d<E.N:=Nat.le_of_ble_eq_true q2;rw[<-q3];simp [X.put,DO,hlt]
   .exact(ItR.start hl hr).mono e1
   .obtain⟨c2,g2,AH2,A2,hq2,hw2,hle3,h5,_,hop2⟩:=D0 h4 hq;rw[<-hw2];exact hnx _ _ _ _ _ (by rw[hle3.φ,hf];exact hle1.φ) (hb.trans (hlx.trans (hl.trans hle3.lx))) (rest hop2 (hl.trans hle3.lx) h5) hq2
   .obtain⟨c2,g2,AH2,A2,hq2,hw2,hle3,h5,_,hop2⟩:=D0 h4 hq;rw[<-hw2];exact hrt _ _ _ _ _ _ (hb.trans (hlx.trans (hl.trans hle3.lx))) (rest hop2 (hl.trans hle3.lx) h5) hq2
  .exact hx.elim
 .exact hx.elim
def mrX(E:Env Y)(q:Nat×Array Oper×(List Oper×RgO)×Y3)(c:Cf Y)(nx rt:Cf Y->Prop):Prop:=UJ E q.2.1 q.2.2.1.1 c λc=>mrE E q.2.2.1.2 q.2.2.2 c nx rt
theorem Avp{E:Env Y}{fn:FK}{g0 g gb:B3}{T AH A:Bh}{R:Qy->World->Prop}{c:Cf Y}{f:Fr}{a b:Code}{q:Nat×Array Oper×(List Oper×RgO)×Y3}{nx rt:Cf Y->Prop}{td:List Item}(hq:mrC a b=some q)(hR:GC g0 T E.X (fn.at R))(hb:Lx gb g)(h:RG g0 T c f g AH A)(hx:mrX E q c nx rt)(hnx:∀c f g' AH A,g'.φ=g.φ->Lx gb g'->RG g0 T c f g' AH A->nx c->WT Y.P fn E.N td R f g'.w)(hrt:∀c f g' AH A k',Lx gb g'->RG g0 T c f g' AH A->rt c->WT Y.P fn E.N (.code .ret::k') R f g'.w):WT Y.P fn E.N (.code (.seq a b)::td) R f g.w:=by obtain⟨rfl,h1,rfl⟩:=Avs hq;refine D8 (CK ?_);rw[h1];refine Adu (Rm hR _ h hx λc' f' g' AH' A' hle hr hx'=>?_);exact Avr hR (hb.trans hle.lx) hr hx' (λc f g2 AH A hf hl hr hq=>hnx c f g2 AH A (by rw[hf,hle.φ]) hl hr hq) hrt
end
end
section
section
variable {Y:Sys}
def Adq:List (AV Y)->Nat->List (Nat×AV Y)
 | [],_=>[]
 |a::as,i=>(i,a)::Adq as (i+1)
theorem Y5{g:B3}{f:Fr}:∀{as:List (AV Y)}{vs:List Value}{i:Nat},F2 (AR g) as vs->(∀j v,vs[j]?=some v->f (i+j)=v)->∀j a,Hu (Adq as i) j=some a->AR g a (f j)
 | [],_,_,.nil,_,j,a,h=>by simp [Adq,Hu]at h
 |a::as,v::vs,i,.cons h1 h2,hf,j,b,h=>by
  refine Sb (Q:=λj b=>AR g b (f j)) (p:=(i,a)) ?_ (Y5 h2 λj u hu=>?_) j b h
  .have:=hf 0 v rfl;rw[Nat.add_zero]at this;show AR g a (f i);rw[this];exact h1
  .have:=hf (j+1) u (by simpa using hu);rwa [Nat.add_assoc,Nat.add_comm 1 j]
def Ae6:List (Nat×C6 Y)->List (Nat×C6 Y)
 | []=>[]
 |s::l=>match s.2 with
  | .clo _ _ _=>s::Ae6 l
  |_=>Ae6 l
theorem ZM{g:B3}:∀{l:List (Nat×C6 Y)}{A:Bh},Fv g l A->Fv g (Ae6 l) []
 | [],_,_=>rfl
 |(i,s)::l,A,⟨A1,A2,_,h2,h3,h4⟩=>by
  have ih:=ZM h4;cases s with
  |clo q fs cs=>
   have e:A1=[]:=h3.1;subst e;exact⟨[],[],rfl,h2,h3,ih⟩
  |_=>exact ih
def Ate(c0:Cf Y)(k:AV Y->Cf Y->Prop)(c:Cf Y):List (AV Y)->Prop
 | [a]=>k a {c with fr:=c0.fr,pt:=c0.pt,sg:=c.sg++c0.sg}
 |l=>k (.own c.nx) {c with fr:=c0.fr,pt:=c0.pt,sg:=(c.nx,.tp l)::(c.sg++c0.sg),nx:=c.nx+1}
def Aep(c0:Cf Y)(res:List ResultVar)(k:AV Y->Cf Y->Prop)(c:Cf Y):Prop:=PV c res (Ate c0 k c)
def Az0(E:Env Y)(F:Func)(c:Cf Y)(as:List (AV Y))(X:TF Y)(k:AV Y->Cf Y->Prop):Prop:=match F.body,c.op with
 |some code,none=>Fu (Nat.ble as.length F.ntmps) (TD {E with N:=F.ntmps,X:=X} code {c with fr:=Adq as 0,pt:=[],sg:=Ae6 c.sg} {nx:=Aep c F.results.toList k,ex:=[],rt:=Aep c F.results.toList k})
 |_,_=>False
variable {g0 g:B3} {T AH A:Bh} {c:Cf Y} {f:Fr}
theorem RG.back{g':B3}{AH' A':Bh}{c':Cf Y}{f':Fr}(h:RG g0 T c f g AH A)(hl:Lx g g')(h':RG g0 (A++T) c' f' g' AH' A'):Le g {g' with φ:=g.φ}/\RG g0 T {c' with fr:=c.fr,pt:=c.pt,sg:=c'.sg++c.sg} f {g' with φ:=g.φ} AH' (A'++A):=by
 have hle:Le g {g' with φ:=g.φ}:=⟨hl.ext,hl.n,hl.μ,rfl⟩
 have h2:=h'.Zf (φ:=g.φ) (pt:=[]) (λt ht=>by simp [Lt]at ht);refine⟨hle,h2.n,h2.le,by rw[List.append_assoc];exact h2.st,?_,h2.sg.app (h.sg.mono hle),h2.hs,h.pt,λi a hi=>(h.fr i a hi).mono hle⟩;have:=h2.hr;show HR _ _ _ _ c'.op;cases ho:c'.op with
 |none|some o=>rw[show ({c' with pt:=[]}:Cf Y).op=c'.op from rfl,ho]at this;exact this
theorem Agw{g':B3}{AH' A':Bh}{c':Cf Y}{f':Fr}{N:Nat}{res:List ResultVar}{k:AV Y->Cf Y->Prop}{K:Value->World->Prop}(h:RG g0 T c f g AH A)(hl:Lx g g')(h':RG g0 (A++T) c' f' g' AH' A')(hx:Aep c res k c')(next:∀v a c' g' AH' A',Le g g'->RG g0 T c' f g' AH' A'->AR g' a v->k a c'->K v g'.w):∃vs,(∀a,Is N a f'->(res.mapM (PU a)).run Y.P g'.w=.ok vs g'.w)/\K (JX vs) g'.w:=by
 obtain⟨as,vs,h1,h2,h3⟩:=Oz (N:=N) h' hx;refine⟨vs,h3,?_⟩;obtain⟨hle,hr⟩:=h.back hl h';replace h2:F2 (AR {g' with φ:=g.φ}) as vs:=h2.mono λ_ _ r=>r.Zf _;have tup:(∀a,as≠[a])->K (JX vs) g'.w:=λhne=>by
  have hv:JX vs=.tuple ⟨vs⟩:=by
   have hlen:=h2.len;cases vs with
   |nil=>rfl
   |cons v vs=>
    cases vs with
    |nil=>
     cases as with
     |nil=>simp at hlen
     |cons a as=>
      cases as with
      |nil=>exact absurd rfl (hne _)
      |cons _ _=>simp at hlen
    |cons _ _=>rfl
  have hk:k (.own c'.nx) {c' with fr:=c.fr,pt:=c.pt,sg:=(c'.nx,.tp as)::(c'.sg++c.sg),nx:=c'.nx+1}:=by
   unfold Ate at h1;split at h1
   .exact absurd rfl (hne _)
   .exact h1
  have hle2:=Le.new (g:={g' with φ:=g.φ}) (v:=.tuple ⟨vs⟩) (Ext.refl g'.I g'.w);have:=hr.new (s:=.tp as) (v:=.tuple ⟨vs⟩) (A1:=[]) (Ext.refl _ _) ⟨rfl,vs,B3.B7 _ _ _,h2.mono λ_ _ r=>r.mono hle2⟩ hr.st;rw[hv];exact next _ _ _ (B3.new {g' with φ:=g.φ} g'.w (.tuple ⟨vs⟩)) _ _ (hle.trans hle2) this (FX hr.n) hk
 by_cases hone:∃a,as=[a]
 .obtain⟨a,rfl⟩:=hone;cases h2 with
  |cons p q=>cases q;exact next _ a _ {g' with φ:=g.φ} _ _ hle hr p h1
 .exact tup λa e=>hone ⟨a,e⟩
def Sd(E:Env Y)(q:FuncId)(F:Func)(hf:Y.P.funcs[q]?=some F)(hc:CU Y.P q=true):TG Y q where
 tr:=Az0 E F
 can:=hc
 ok {g0 g T AH A c f as vs X k} h ha hx R K hR next:=by
  unfold Az0 at hx;split at hx
  .rename_i code hb hop;obtain⟨hlen,hx⟩:=AM hx;have hr:RG g0 (A++T) {c with fr:=Adq as 0,pt:=[],sg:=Ae6 c.sg} (WI vs) g AH []:=⟨h.n,h.le,h.st,by have:=h.hr;show HR _ _ _ _ c.op;rw[hop]at this ⊢;exact this,ZM h.sg,h.hs,λt ht=>by simp [Lt]at ht,Y5 ha λj v hj=>by rw[Nat.zero_add,<-L6,hj];rfl⟩
   refine Il (N:=F.ntmps) hf hb rfl (by rw[<-ha.len];exact Nat.le_of_ble_eq_true hlen) ?_;have fin:∀{c' f' g' AH' A'},Lx g g'->RG g0 (A++T) c' f' g' AH' A'->Aep c F.results.toList k c'->∃v,(∀a,Is F.ntmps a f'->(results F a).run Y.P g'.w=.ok v g'.w)/\K v g'.w:=λhl hr' hx'=>by obtain⟨us,h1,h2⟩:=Agw (N:=F.ntmps) h hl hr' hx' next;exact⟨_,λa ha=>Gx (h1 a ha),h2⟩
   refine GB (E:={E with N:=F.ntmps,X:=X}) (fn:=⟨q,none,[]⟩) (gb:=g) ?_ code ⟨λc' f' g' AH' A' _ hl hr' hx'=>SP (fin hl hr' hx'),λid q hq=>by simp [Z0]at hq,λc' f' g' AH' A' k' hl hr' hx'=>MW (fin hl hr' hx')⟩ (Lx.refl g) hr hx;exact λv w' I' AH' H' t l u h1 h2 h3 h4 h5 h6 _=>hR v w' I' AH' H' t l u h1 (DD h2) h3 h4 h5 h6
  .exact hx.elim
def JY(M:List Nat):Bh:=M.map λb=>(b,.deferred (some []))
def Xk(q:FuncId)(M:List Nat):FK:=⟨q,none,M.map λb=>⟨.collected b,#[]⟩⟩
variable {q:FuncId} {M:List Nat} {b:Nat}
theorem Anp:(Xk q M).mark b=Xk q (b::M):=rfl
theorem XQ{I:BY}{w:World}{o o':Obj}(h:St I w ((b,o)::T)):Ext I w I (w.putObj b o')/\St I (w.putObj b o') ((b,o')::T):=by have hb:=(h.own (b,o) (by simp)).1;have hlt:b<w.heap.size:=(Array.getElem?_eq_some_iff.1 hb).1;exact h.write (b:=b) (o:=o) (o':=o') (T:=T) rfl rfl rfl (by simp) (World.putObj_heap_same hlt) λc hc=>World.putObj_heap_other hc
theorem RX{I:BY}{B T:Bh}:∀(M:List Nat){w:World},St I w (B++(JY M++T))->∃w',Ext I w I w'/\St I w' (B++T)/\∀{P:Program}{F:Func}{N:Nat}{f:Fr}{R:Ending->World->Prop}{u:FrameMode},u≠.run->Lv P F N f R [] u w'->Lv P F N f R (M.map λb=>⟨.collected b,#[]⟩) u w
 | [],w,h=>⟨w,Ext.refl _ _,h,λ_ h=>h⟩
 |b::M,w,h=>by have h1:St I w ((b,.deferred (some []))::(B++(JY M++T))):=h.perm (by simp only[JY,List.map_cons,List.cons_append];exact List.perm_middle);obtain⟨e1,s1⟩:=XQ (o':=.deferred none) h1;obtain⟨w',e2,s2,h2⟩:=RX M (s1.drop (A:=[(b,.deferred none)]));exact⟨w',e1.trans e2,s2,λhu hl=>⟨hu,.inl ⟨b,rfl,(h1.own _ (List.mem_cons_self)).1,h2 hu hl⟩⟩⟩
theorem Abq(h:RG g0 (JY M++T) c f g AH A):∃g',Le g g'/\RG g0 T c f g' AH A/\∀{F:Func}{N:Nat}{f':Fr}{R:Ending->World->Prop}{u:FrameMode},u≠.run->Lv Y.P F N f' R [] u g'.w->Lv Y.P F N f' R (M.map λb=>⟨.collected b,#[]⟩) u g.w:=by
 obtain⟨w',e,s,hl⟩:=RX (B:=AH++A) M (by rw[List.append_assoc];exact h.st);have hle:Le g {g with w:=w'}:=⟨e,Nat.le_refl _,λ_ _=>rfl,rfl⟩
 exact⟨_,hle,⟨h.n,h.le.trans e,by rw[<-List.append_assoc];exact s,h.hr.mono hle,h.sg.mono hle,h.hs.mono hle,hle.pt h.pt,λi a hi=>(h.fr i a hi).mono hle⟩,λhu hv=>hl hu hv⟩
variable {l:Nat} {r:Loop}
theorem Aqz{I:BY}{w:World}{H:HH Y}(hH:Hk (P2 Y) I w H AH)(s:St I w (AH++T))(hl:H l=some (.lp r)):w.heap[l]?=some (.loop r):=by obtain⟨A1,A2,h1,_,h3⟩:=Hk.take hH hl s;obtain rfl:A1=[(l,.loop r)]:=h1;exact(h3.own (l,.loop r) (by simp)).1
theorem Sa(h:RG g0 T c f g AH A)(hop:c.op=none)(hl:c.H l=some (.lp r))(r':Loop):g.w.heap[l]?=some (.loop r)/\Le g {g with w:=g.w.putObj l (.loop r')}/\∃AH',RG g0 T {c with H:=Ac c.H l (.lp r')} f {g with w:=g.w.putObj l (.loop r')} AH' A:=by
 have hH:=h.hr;rw[hop]at hH;obtain⟨A1,A2,h1,h2,h3⟩:=Hk.take hH hl h.st;obtain rfl:A1=[(l,.loop r)]:=h1;obtain⟨e,s⟩:=XQ (o':=.loop r') h3;have hle:Le g {g with w:=g.w.putObj l (.loop r')}:=⟨e,Nat.le_refl _,λ_ _=>rfl,rfl⟩
 refine⟨(h3.own (l,.loop r) (by simp)).1,hle,(l,.loop r')::A2,h.n,h.le.trans e,s,?_,h.sg.mono hle,h.hs.mono hle,hle.pt h.pt,λi a hi=>(h.fr i a hi).mono hle⟩;show HR _ _ _ _ c.op;rw[hop];exact HpX.lay (A1:=[(l,.loop r')]) (h2.mono e) rfl
def CE(r:Loop):Loop:={r with state:=.busy}
def OQ(r:Loop)(j:Code):Loop:={r with state:=.done,pending:=some j}
def Api:List Tmp->List (AV Y)->List (Nat×AV Y)->List (Nat×AV Y)
 |p::ps,a::as,l=>Api ps as ((p,a)::l)
 |_,_,l=>l
theorem Afp{N:Nat}{g0 g:B3}{T AH A:Bh}:∀{ps:List Tmp}{as:List (AV Y)}{vs:List Value}{c:Cf Y}{f:Fr},RG g0 T c f g AH A->c.pt=[]->ps.all (λp=>Nat.blt p N)=true->F2 (AR g) as vs->RG g0 T {c with fr:=Api ps as c.fr} (Adp N ps vs f) g AH A
 |[],_,_,c,f,h,_,_,_|p::ps,[],_,c,f,h,_,_,.nil=>by simpa [Api,Adp] using h
 |p::ps,a::as,v::vs,c,f,h,hp,hN,.cons h1 h2=>by simp only[List.all_cons,Bool.and_eq_true]at hN;exact Afp (c:=c.set p a) (h.set (by rw[hp];simp [Lt];simpa using hN.1) h1) hp hN.2 h2
def A2g(c:Cf Y)(ps:List Tmp)(as:List (AV Y))(H:HH Y):Cf Y:={fr:=Api ps as c.fr,sg:=[],nx:=c.nx,H:=H,op:=none,hs:=c.hs,pt:=[]}
def Awx(l:Nat)(r:Loop)(j:Option Code)(Q:Iq Y [.bool]->HH Y->Prop)(c:Cf Y):Prop:=cls c λc=>c.H l=some (.lp (CE r))/\match j with
 |none=>Q (true,()) (Ac c.H l (.lp r))
 |some j=>Q (false,()) (Ac c.H l (.lp (OQ r j)))
def Atv(E:Env Y)(c:Cf Y)(l:Nat)(r:Loop)(ps:List Tmp)(as bd:Code)(ts:List Ty):FT Y ts [.bool]:=λa H Q X=>H l=some (.lp r)/\TD {E with X:=X} as (A2g c ps (P7 ts a) H)
 {nx:=λc1=>cls c1 λc1=>c1.H l=some (.lp r)/\TD {E with X:=X} bd {c1 with H:=Ac c1.H l (.lp (CE r))} {nx:=Awx l r none Q,ex:=[],rt:=Awx l r (some .ret) Q},ex:=[],rt:=λ_=>False}
theorem Ag9{E:Env Y}{q:FuncId}{j:Option Code}(hr1:r.state=.ready)(hr2:r.pending=none){Q:Iq Y [.bool]->HH Y->Prop}{X:TF Y}(h:RG g0 T c f g AH A)(hx:Awx l r j Q c):Aso Y.P l (Ahv Y g0.I g0.w T (λI' w' v A' H'=>A'=[]/\∃b us,v=JX us/\W5 Y I' w' [.bool] b us/\Q b H') X) (.lv j f []) g.w:=by
 obtain⟨c1,g1,AH1,A1,⟨h1,h2⟩,hw,hle,hr,_,hop⟩:=D0 h hx;have fin:∀(r':Loop)(b:Bool),r'={CE r with state:=if j.isNone then .ready else .done,pending:=j}->j.isNone=b->Q (b,()) (Ac c1.H l (.lp r'))->Aso Y.P l (Ahv Y g0.I g0.w T (λI' w' v A' H'=>A'=[]/\∃b us,v=JX us/\W5 Y I' w' [.bool] b us/\Q b H') X) (.lv j f []) g.w:=λr' b e eb hq=>by
  obtain⟨k1,k2,AH2,k3⟩:=Sa hr hop h1 r';refine⟨_,_,by rw[<-hw];exact run_endRound j k1,.inl ⟨_,g1.I,rfl,?_,AH2,[],_,?_,?_,rfl,(b,()),[.bool b],by rw[<-eb];rfl,⟨_,[],rfl,GO.2 rfl,rfl⟩,hq⟩⟩
  .rw[<-e];exact k3.le
  .rw[<-e];exact DD k3.st
  .have:=k3.hr;rw[<-e];change HR _ _ _ _ c1.op at this;rw[hop]at this;exact this
 cases j with
 |none=>exact fin r true (by cases r;simp [CE]at *;exact⟨hr1,hr2⟩) rfl h2
 |some j=>exact fin (OQ r j) false (by simp [CE,OQ]) rfl h2
variable {E:Env Y}
theorem Atu{F:Func}(hF:Y.P.funcs[q]?=some F)(h:RG g0 T c f g AH A){a0:Array Value}(ha0:Is E.N a0 f){ps:Array Tmp}{as bd:Code}{ts:List Ty}(hps:ps.size=ts.length)(hpN:ps.toList.all (λp=>Nat.blt p E.N)=true):FvR Y ts [.bool] (Atv E c l (Uo q a0 ps as bd b) ps.toList as bd ts) g.I g.w (.func (.yield l) #[] #[]):=by
 refine⟨⟨_,_,_,rfl⟩,λa H Q X⟨hl,hx⟩I w e T' AH' vs hvs hH hst=>.inr ⟨l,_,rfl,Aqz hH hst hl,?_,?_⟩⟩
 .show vs.length=ps.size;rw[hps];have:∀{ts:List Ty}{a:Iq Y ts}{vs:List Value},W5 Y I w ts a vs->vs.length=ts.length:=by
   intro ts;induction ts with
   |nil=>intro a vs h;rw[show vs=[] from h];rfl
   |cons t ts ih=>intro a vs h;obtain⟨v,vs',h1,_,h3⟩:=h;rw[h1];simp [ih h3]
  exact this hvs
 .let g3:B3:={g with I:=I,w:=w}
  have hle:Le g g3:=⟨e,Nat.le_refl _,λ_ _=>rfl,rfl⟩
  have base:RG g3 T' {c with sg:=[],H:=H,op:=none,pt:=[]} f g3 AH' []:=⟨h.n,Ext.refl _ _,hst,hH,rfl,h.hs.mono hle,λt ht=>by simp [Lt]at ht,λi a hi=>(h.fr i a hi).mono hle⟩
  have hr:=Afp (N:=E.N) base rfl hpN (Ph (g:=g3) hvs);refine Aih (N:=E.N) ⟨F,hF⟩ (Awb ha0) ?_;have hRX:GC g3 T' X ((⟨q,some l,[]⟩:FK).at (Aso Y.P l (Ahv Y I w T' (λI' w' r A' H'=>A'=[]/\∃b us,r=JX us/\W5 Y I' w' [.bool] b us/\Q b H') X))):=λv w' I' AH' H' t l u h1 h2 h3 h4 h5 h6 _=>.inr ⟨v,I',rfl,h1,AH',H',t,l,u,h2,h3,h4,h5,h6⟩;refine GB (E:={E with X:=X}) (fn:=⟨q,some l,[]⟩) (gb:=g3) hRX as ⟨λc1 f1 g1 AH1 A1 _ hlx hr1 hx1=>?_,λid q hq=>by simp [Z0]at hq,λc1 f1 g1 AH1 A1 k' hlx hr1 hx1=>False.elim hx1⟩ (Lx.refl _) hr hx;dsimp only at hx1;obtain⟨c2,g2,AH2,A2,⟨hl2,hx2⟩,hw2,hle2,hr2,_,hop2⟩:=D0 hr1 hx1;obtain⟨k1,k2,AH3,k3⟩:=Sa hr2 hop2 hl2 (CE (Uo q a0 ps as bd b));rw[<-hw2];refine WO rfl (run_beginRound k1 rfl) ?_;have:=GB (E:={E with X:=X}) (fn:=⟨q,some l,[]⟩) (k:=[]) (gb:={g2 with w:=g2.w.putObj l (.loop (CE (Uo q a0 ps as bd b)))}) hRX bd ⟨λc1 f1 g1 AH1 A1 _ hlx hr1 hx1=>SP (Ag9 (E:=E) (q:=q) rfl rfl hr1 hx1),λid q hq=>by simp [Z0]at hq,λc1 f1 g1 AH1 A1 k' hlx hr1 hx1=>MW (Ag9 (E:=E) (q:=q) rfl rfl hr1 hx1)⟩ (Lx.refl _) k3 hx2;exact this
def rfX(E:Env Y)(gop:Operand)(ps:Array Tmp)(as bd:Code)(c:Cf Y)(nx rt:Cf Y->Prop):Prop:=cls c λc=>match Ey c gop with
 |some (.own j)=>match HG c.sg j with
  |some (.clo q fs cs)=>match E.sigs q with
   |some ⟨.fn ts [.bool]::_,_⟩=>Fu (Nat.beq ps.size ts.length&&ps.toList.all λp=>Nat.blt p E.N) (∀l r,c.H l=none->
    Wx E.sigs E.X {c with H:=Ac c.H l (.lp r)} q (fs++([.fn ts [.bool] (Atv E c l r ps.toList as bd ts)]++cs)) λ_ c2=>cls c2 λc2=>
     (c2.H l=some (.lp r)/\∀r',nx {c2 with H:=Ac c2.H l (.lp r')})∨(c2.H l=some (.lp (OQ r .ret))/\∀r',rt {c2 with H:=Ac c2.H l (.lp r')}))
   |_=>False
  |_=>False
 |_=>False
theorem Ayv(x y:Nat×Obj)(B C D E:Bh):(x::(y::(B++(C++(D++E))))).Perm ((x::B)++(C++((y::D)++E))):=by simp only[List.cons_append];refine List.Perm.cons _ ?_;rw[<-List.append_assoc B C,<-List.append_assoc B C];exact List.perm_middle.symm
theorem Ayw(x y:Nat×Obj)(B C:Bh):(x::(y::(B++C))).Perm (x::(B++(y::C))):=List.Perm.cons _ List.perm_middle.symm
theorem Auk(h:RG g0 (JY M++T) c f g AH A)(hop:c.op=none)(r:Loop):c.H (g.w.heap.size+1)=none/\∃g2 AH',g2.w=(g.w.alloc (.deferred (some []))).alloc (.loop r)/\Le g g2/\RG g0 (JY (g.w.heap.size::M)++T) {c with H:=Ac c.H (g.w.heap.size+1) (.lp r)} f g2 AH' A:=by
 have hH:=h.hr;rw[hop]at hH;obtain⟨e1,s1⟩:=h.st.alloc (.deferred (some []));obtain⟨e2,s2⟩:=s1.alloc (.loop r);have hsz:(g.w.alloc (.deferred (some []))).heap.size=g.w.heap.size+1:=by simp
 rw[hsz]at s2;have e12:=e1.trans e2;let g2:B3:={g with w:=(g.w.alloc (.deferred (some []))).alloc (.loop r)}
 have hle2:Le g g2:=⟨e12,Nat.le_refl _,λ_ _=>rfl,rfl⟩
 have hH2:Hk (P2 Y) g2.I g2.w c.H AH:=Hk.mono hH e12;have s2':St g2.I g2.w ((g.w.heap.size+1,.loop r)::((g.w.heap.size,.deferred (some []))::(AH++(A++(JY M++T))))):=s2;have hfr:c.H (g.w.heap.size+1)=none:=Sj hH2 (s2'.perm (Ayw _ _ _ _));refine⟨hfr,g2,(g.w.heap.size+1,.loop r)::AH,rfl,hle2,h.n,h.le.trans e12,s2'.perm (Ayv _ _ _ _ _ _),?_,h.sg.mono hle2,h.hs.mono hle2,hle2.pt h.pt,λi a hi=>(h.fr i a hi).mono hle2⟩;show HR _ _ _ _ c.op;rw[hop];exact Hk.new (A1:=[(g.w.heap.size+1,.loop r)]) hH2 rfl
theorem Aul{q0:FuncId}{F0:Func}(hF:Y.P.funcs[q0]?=some F0){R:Qy->World->Prop}(hR:∀M,GC g0 (JY M++T) E.X ((Xk q0 M).at R)){gop:Operand}{ps:Array Tmp}{as bd:Code}(h:RG g0 (JY M++T) c f g AH A){nx rt:Cf Y->Prop}{k:List Item}(hx:rfX E gop ps as bd c nx rt)(hnx:∀M c f g' AH A,Lx g g'->RG g0 (JY M++T) c f g' AH A->nx c->WT Y.P (Xk q0 M) E.N k R f g'.w)(hrt:∀M c f g' AH A k',Lx g g'->RG g0 (JY M++T) c f g' AH A->rt c->WT Y.P (Xk q0 M) E.N (.code .ret::k') R f g'.w):WT Y.P (Xk q0 M) E.N (.code (.rangeFunc gop ps as bd)::k) R f g.w:=by
 obtain⟨c1,g1,AH1,A1,hx,hw,hle,h1,_,hop⟩:=D0 h hx;rw[<-hw];split at hx
 .rename_i j ha;split at hx
  .rename_i q fs cs hs;split at hx
   .rename_i ts ks res hsg;obtain⟨hc,hx⟩:=AM hx;simp only[Bool.and_eq_true,Nat.beq_eq]at hc;obtain⟨C1,C2,_,_,⟨_,vs,us,h3,h4,h5⟩,_⟩:=h1.sg.take hs;have hg:ev f gop=.func (.func q) ⟨vs⟩ ⟨us⟩:=(h1.ev ha).2.trans h3;refine Y7 rfl hg λa haN=>?_;obtain⟨hfr,g2,AH2,hw2,hle2,h2⟩:=Auk h1 hop (Uo q0 a ps as bd g1.w.heap.size);have hy:AR g2 (.fn ts [.bool] (Atv E c1 (g1.w.heap.size+1) (Uo q0 a ps as bd g1.w.heap.size) ps.toList as bd ts)) (.func (.yield (g1.w.heap.size+1)) #[] #[]):=Atu (c:={c1 with H:=Ac c1.H (g1.w.heap.size+1) (.lp (Uo q0 a ps as bd g1.w.heap.size))}) hF h2 haN hc.1 hc.2;obtain⟨hcan,hcall⟩:=OW h2 (hx _ _ hfr) ((h4.mono λ_ _ r=>r.mono hle2).app ((F2.cons hy .nil).app (h5.mono λ_ _ r=>r.mono hle2)));refine⟨hcan,?_⟩;have key:=hcall (λch w=>R (.pan ch f (Xk q0 (g1.w.heap.size::M)).ds) w) (λ_ w'=>∃r,w'.heap[g1.w.heap.size+1]?=some (.loop r)/\r.state≠.busy/\WT Y.P (Xk q0 (g1.w.heap.size::M)) E.N ((r.pending.map Item.code).toList++k) R f (w'.putObj (g1.w.heap.size+1) (.loop {r with state:=.exhausted})))
     (λv w' I' AH' H' t l u h1 h2 h3 h4 h5 h6=>hR (g1.w.heap.size::M) v w' I' AH' H' t l u h1 h2 h3 h4 h5 h6 f) (λv a' c3 g3 AH3 A3 hle3 hr3 _ hk3=>by
      obtain⟨c4,g4,AH4,A4,hk4,hw4,hle4,hr4,_,hop4⟩:=D0 hr3 hk3;rw[<-hw4];have hl4:=hle.trans (hle2.trans (hle3.trans hle4));rcases hk4 with ⟨hl,hk4⟩|⟨hl,hk4⟩
      .obtain⟨k1,k2,AH5,k3⟩:=Sa hr4 hop4 hl {Uo q0 a ps as bd g1.w.heap.size with state:=.exhausted};exact⟨_,k1,λe=>(by cases e),hnx _ _ _ _ _ _ (hl4.trans k2).lx k3 (hk4 _)⟩
      .obtain⟨k1,k2,AH5,k3⟩:=Sa hr4 hop4 hl {OQ (Uo q0 a ps as bd g1.w.heap.size) .ret with state:=.exhausted};exact⟨_,k1,λe=>(by cases e),hrt _ _ _ _ _ _ k (hl4.trans k2).lx k3 (hk4 _)⟩)
    have hargs:(⟨(⟨vs⟩:Array Value).toList++[.func (.yield (g1.w.heap.size+1)) #[] #[]]++(⟨us⟩:Array Value).toList⟩:Array Value)=⟨vs++([.func (.yield (g1.w.heap.size+1)) #[] #[]]++us)⟩:=congrArg Array.mk (List.append_assoc _ _ _);have hw3:(g1.w.alloc (.deferred (some []))).alloc (.loop (Uo (Xk q0 M).fn a ps as bd g1.w.heap.size))=g2.w:=hw2.symm;rw[hargs,hw3,Anp];refine Calls.mono key λe w' he=>?_;rcases he with ⟨v,I',rfl,_,r,x1,x2,x3⟩|⟨v,I',rfl,_,hh⟩
    .exact⟨r,x1,x2,x3⟩
    .exact hh
   .exact hx.elim
  .exact hx.elim
 .exact hx.elim
def Ac6(E:Env Y):Code->(Cf Y->Prop)->(Cf Y->Prop)->Cf Y->Prop
 | .seq a b,nx,rt,c=>match mrC a b with
  |some q=>mrX E q c nx rt
  |none=>Ac6 E a (Ac6 E b nx rt) rt c
 | .block id b,nx,rt,c=>match b with
  | .rangeFunc g ps as bd=>rfX E g ps as bd c nx rt
  |b=>TD E (.block id b) c ⟨nx,[],rt⟩
 |code,nx,rt,c=>TD E code c ⟨nx,[],rt⟩
theorem Ahu{q0:FuncId}{F0:Func}(hF:Y.P.funcs[q0]?=some F0){R:Qy->World->Prop}(hR:∀M,GC g0 (JY M++T) E.X ((Xk q0 M).at R)):∀(code:Code){nx rt:Cf Y->Prop}{k:List Item}{M:List Nat}{c:Cf Y}{f:Fr}{g gb:B3}{AH A:Bh},(∀M c f g AH A,Lx gb g->RG g0 (JY M++T) c f g AH A->nx c->WT Y.P (Xk q0 M) E.N k R f g.w)->(∀M c f g AH A k',Lx gb g->RG g0 (JY M++T) c f g AH A->rt c->WT Y.P (Xk q0 M) E.N (.code .ret::k') R f g.w)->Lx gb g->RG g0 (JY M++T) c f g AH A->Ac6 E code nx rt c->WT Y.P (Xk q0 M) E.N (.code code::k) R f g.w:=by
 intro code;have plain:∀(code:Code){nx rt:Cf Y->Prop}{k:List Item}{M:List Nat}{c:Cf Y}{f:Fr}{g gb:B3}{AH A:Bh},(∀M c f g AH A,Lx gb g->RG g0 (JY M++T) c f g AH A->nx c->WT Y.P (Xk q0 M) E.N k R f g.w)->(∀M c f g AH A k',Lx gb g->RG g0 (JY M++T) c f g AH A->rt c->WT Y.P (Xk q0 M) E.N (.code .ret::k') R f g.w)->
   Lx gb g->RG g0 (JY M++T) c f g AH A->TD E code c ⟨nx,[],rt⟩->WT Y.P (Xk q0 M) E.N (.code code::k) R f g.w:=λcode nx rt k M c f g gb AH A hnx hrt hb hr hx=>
  GB (fn:=Xk q0 M) (gb:=gb) (hR M) code ⟨λc f g AH A _ hl hr hx=>hnx M c f g AH A hl hr hx,λid q hq=>by simp [Z0]at hq,λc f g AH A k' hl hr hx=>hrt M c f g AH A k' hl hr hx⟩ hb hr hx
 induction code with
 |seq a b iha ihb=>
  intro nx rt k M c f g gb AH A hnx hrt hb hr hx;unfold Ac6 at hx;split at hx
  .rename_i q hq;exact Avp (fn:=Xk q0 M) hq (hR M) hb hr hx (λc f g AH A _ hl hr hx=>hnx M c f g AH A hl hr hx) λc f g AH A k' hl hr hx=>hrt M c f g AH A k' hl hr hx
  .exact D8 (iha (λM c f g AH A hl hr hx=>ihb hnx hrt hl hr hx) hrt hb hr hx)
 |block id b _=>
  intro nx rt k M c f g gb AH A hnx hrt hb hr hx;unfold Ac6 at hx;split at hx
  .exact KE (Aul hF hR hr hx (λM c f g AH A hl hr hx=>KD (hnx M c f g AH A (hb.trans hl) hr hx)) λM c f g AH A k' hl hr hx=>hrt M c f g AH A k' (hb.trans hl) hr hx)
  .exact plain _ hnx hrt hb hr hx
 |_=>exact plain _
theorem Adt{σ:Bs}{F:Func}{code:Code}{a:IS Y σ.args}{H:HH Y}{Q:Lq Y σ.res->Nz Y σ.args->HH Y->Prop}(hf:Y.P.funcs[q]?=some F)(hb:F.body=some code)(hN:F.ntmps=E.N)(hl:Nat.ble σ.args.length E.N=true)(h:Ac6 E code (rtX F.results.toList σ Q) (rtX F.results.toList σ Q) (ini σ.args a H)):Wp Y q σ a H Q E.X:=by
 intro I w T A AH vs hargs hH hst;refine QA hf hb hN (by rw[ZP hargs];exact hl) ?_;let gi:B3:={I:=I,w:=w,n:=0,μ:=λ_=>undef,φ:=WI vs}
 obtain⟨g,k1,k2,k3,k4,k5,k6,k7⟩:=UB (g:=gi) (i:=0) (f:=WI vs) hargs (λj v hj=>by rw[Nat.zero_add,<-L6,hj];rfl);have hr:RG gi (JY []++T) (ini σ.args a H) (WI vs) g AH A:=⟨k4,k1.ext,by rw[k2,k3];exact hst,by show Hk _ _ _ _ _;rw[k2,k3];exact hH,k6,λx hx=>(by cases hx),λt ht=>(by simp [ini,Lt]at ht),k5⟩
 have fin:∀(M:List Nat)(c:Cf Y)(f:Fr)(g':B3)(AH' A':Bh),Lx g g'->RG gi (JY M++T) c f g' AH' A'->rtX F.results.toList σ Q c->Lv Y.P F E.N f (Ahw I w (λv I' w'=>∃AH' A' H',St I' w' (AH'++(A'++T))/\Hk (P2 Y) I' w' H' AH'/\∃b io us A1 A2,A'=A1++A2/\v=JX us/\ReR Y I' w' σ.res b us A1/\IoR Y I' w' σ.args io vs A2/\Q b io H') (λv I' w'=>∃AH' H' t l u,St I' w' (AH'++T)/\Hk (P2 Y) I' w' H' AH'/\v=.iface t u/\rp Y.toUS l.t I' w' u l.x/\E.X t l H')) (Xk q M).ds .returning g'.w:=λM c f g' AH' A' hlx hr hx=>by obtain⟨g2,hle2,hr2,hlv⟩:=Abq hr;refine hlv (λe=>by cases e) ?_;obtain⟨v,h1,v',I',h2,h3,h4⟩:=Ale k7 (hlx.trans hle2.lx) hr2 hx;exact⟨v,h1,.inl ⟨v',I',h2,h3,h4⟩⟩
 have hR:∀M,GC gi (JY M++T) E.X ((Xk q M).at (Ajy Y.P F E.N (Ahw I w (λv I' w'=>∃AH' A' H',St I' w' (AH'++(A'++T))/\Hk (P2 Y) I' w' H' AH'/\∃b io us A1 A2,A'=A1++A2/\v=JX us/\ReR Y I' w' σ.res b us A1/\IoR Y I' w' σ.args io vs A2/\Q b io H') (λv I' w'=>∃AH' H' t l u,St I' w' (AH'++T)/\Hk (P2 Y) I' w' H' AH'/\v=.iface t u/\rp Y.toUS l.t I' w' u l.x/\E.X t l H')))):=λM v w' I' AH' H' t l u h1 h2 h3 h4 h5 h6 f=>by obtain⟨w2,e2,s2,hlv⟩:=RX M h2;exact hlv (λe=>by cases e) (.inr ⟨v,I',rfl,h1.trans e2,AH',H',t,l,u,s2,Hk.mono h3 e2,h4,EX e2 h5,h6⟩)
 have:=Ahu (E:=E) (M:=[]) (k:=[]) (gb:=g) hf hR code (λM c f g' AH' A' hlx hr hx=>SP (fin M c f g' AH' A' hlx hr hx)) (λM c f g' AH' A' k' hlx hr hx=>MW (fin M c f g' AH' A' hlx hr hx)) (Lx.refl g) hr h;rw[k2]at this;exact this
def Atc(E:Env Y)(F:Func)(c:Cf Y)(as:List (AV Y))(X:TF Y)(k:AV Y->Cf Y->Prop):Prop:=match F.body,c.op with
 |some code,none=>Fu (Nat.ble as.length F.ntmps) (Ac6 {E with N:=F.ntmps,X:=X} code (Aep c F.results.toList k) (Aep c F.results.toList k) {c with fr:=Adq as 0,pt:=[],sg:=Ae6 c.sg})
 |_,_=>False
def Awh(E:Env Y)(q:FuncId)(F:Func)(hf:Y.P.funcs[q]?=some F)(hc:CU Y.P q=true):TG Y q where
 tr:=Atc E F
 can:=hc
 ok {g0 g T AH A c f as vs X k} h ha hx R K hR next:=by
  unfold Atc at hx;split at hx
  .rename_i code hb hop;obtain⟨hlen,hx⟩:=AM hx;have hr:RG g0 (JY []++(A++T)) {c with fr:=Adq as 0,pt:=[],sg:=Ae6 c.sg} (WI vs) g AH []:=⟨h.n,h.le,h.st,by have:=h.hr;show HR _ _ _ _ c.op;rw[hop]at this ⊢;exact this,ZM h.sg,h.hs,λt ht=>by simp [Lt]at ht,Y5 ha λj v hj=>by rw[Nat.zero_add,<-L6,hj];rfl⟩
   refine Il (N:=F.ntmps) hf hb rfl (by rw[<-ha.len];exact Nat.le_of_ble_eq_true hlen) ?_;have fin:∀{M c' f' g' AH' A'},Lx g g'->RG g0 (JY M++(A++T)) c' f' g' AH' A'->Aep c F.results.toList k c'->Lv Y.P F F.ntmps f' (λe w'=>match e with | .returned v=>K v w' | .panicked ch=>R ch w' | .outgrown=>False) (M.map λb=>⟨.collected b,#[]⟩) .returning g'.w:=λ{M c' f' g' AH' A'}hl hr' hx'=>by obtain⟨g2,hle2,hr2,hlv⟩:=Abq hr';refine hlv (λe=>by cases e) ?_;obtain⟨us,h1,h2⟩:=Agw (N:=F.ntmps) h (hl.trans hle2.lx) hr2 hx' next;exact⟨_,λa ha=>Gx (h1 a ha),h2⟩
   have hR':∀M,GC g0 (JY M++(A++T)) X ((Xk q M).at (Ajy Y.P F F.ntmps (λe w'=>match e with | .returned v=>K v w' | .panicked ch=>R ch w' | .outgrown=>False))):=λM v w' I' AH' H' t l u h1 h2 h3 h4 h5 h6 f'=>by obtain⟨w2,e2,s2,hlv⟩:=RX M h2;exact hlv (λe=>by cases e) (hR v w2 I' AH' H' t l u (h1.trans e2) (DD s2) (Hk.mono h3 e2) h4 (EX e2 h5) h6)
   exact Ahu (E:={E with N:=F.ntmps,X:=X}) (M:=[]) (k:=[]) (gb:=g) hf hR' code (λM c' f' g' AH' A' hl hr' hx'=>SP (fin hl hr' hx')) (λM c' f' g' AH' A' k' hl hr' hx'=>MW (fin hl hr' hx')) (Lx.refl g) hr hx
  .exact hx.elim
end
end
end Go.Y
section
namespace Go.Y
open Go Go.RowKit Go.X
section
variable {D:Nat->Type} {α:Type}
def tk(t:Ty)(l:List (Lf D))(k:den D t->List (Lf D)->Option α):Option α:=match l with
 | []=>none
 |⟨t',x⟩::l=>match Ty.dec t' t with
  | .isTrue h=>k (h▸x) l
  | .isFalse _=>none
variable {t:Ty} {r:α}
theorem Ayo{l:List (Lf D)}{k:den D t->List (Lf D)->Option α}(h:tk t l k=some r):∃x l',l=⟨t,x⟩::l'/\k x l'=some r:=by
 unfold tk at h;split at h
 .cases h
 .split at h
  .rename_i e _;subst e;exact⟨_,_,rfl,h⟩
  .cases h
def nl(l:List (Lf D))(r:Option α):Option α:=match l with
 | []=>r
 |_::_=>none
theorem Azn{l:List (Lf D)}{r:Option α}{x:α}(h:nl l r=some x):l=[]/\r=some x:=by
 cases l with
 |nil=>exact⟨rfl,h⟩
 |cons=>cases h
def Dg(t:Ty)(l:List (OL D))(k:den D t->List (OL D)->Option α):Option α:=match l with
 | .dat ⟨t',x⟩::l=>match Ty.dec t' t with
  | .isTrue h=>k (h▸x) l
  | .isFalse _=>none
 |_=>none
variable {l:List (OL D)}
theorem At9{k:den D t->List (OL D)->Option α}(h:Dg t l k=some r):∃x l',l=.dat ⟨t,x⟩::l'/\k x l'=some r:=by
 unfold Dg at h;split at h
 .split at h
  .rename_i e _;subst e;exact⟨_,_,rfl,h⟩
  .cases h
 .cases h
def SM(t:Ty)(l:List (OL D))(k:List (den D t)->List (OL D)->Option α):Option α:=match l with
 | .own t' x::l=>match Ty.dec t' t with
  | .isTrue h=>k (h▸x) l
  | .isFalse _=>none
 |_=>none
theorem At6{k:List (den D t)->List (OL D)->Option α}(h:SM t l k=some r):∃x l',l=.own t x::l'/\k x l'=some r:=by
 unfold SM at h;split at h
 .split at h
  .rename_i e _;subst e;exact⟨_,_,rfl,h⟩
  .cases h
 .cases h
def tkM(t e:Ty)(l:List (OL D))(k:List (den D t×den D e)->List (OL D)->Option α):Option α:=match l with
 | .map t' e' x::l=>match Ty.dec t' t,Ty.dec e' e with
  | .isTrue h,.isTrue h'=>k (h▸h'▸x) l
  |_,_=>none
 |_=>none
theorem At8{e:Ty}{k:List (den D t×den D e)->List (OL D)->Option α}(h:tkM t e l k=some r):∃x l',l=.map t e x::l'/\k x l'=some r:=by
 unfold tkM at h;split at h
 .split at h
  .rename_i e1 e2 _ _;subst e1;subst e2;exact⟨_,_,rfl,h⟩
  .cases h
 .cases h
def tkN(t:Ty)(l:List (OL D))(k:Option (List (den D t))->List (OL D)->Option α):Option α:=match l with
 | .ownO t' x::l=>match Ty.dec t' t with
  | .isTrue h=>k (h▸x) l
  | .isFalse _=>none
 |_=>none
theorem At7{k:Option (List (den D t))->List (OL D)->Option α}(h:tkN t l k=some r):∃x l',l=.ownO t x::l'/\k x l'=some r:=by
 unfold tkN at h;split at h
 .split at h
  .rename_i e _;subst e;exact⟨_,_,rfl,h⟩
  .cases h
 .cases h
def HF(l:List (OL D))(r:Option α):Option α:=match l with
 | []=>r
 |_::_=>none
theorem Amk{r:Option α}{x:α}(h:HF l r=some x):l=[]/\r=some x:=by
 cases l with
 |nil=>exact⟨rfl,h⟩
 |cons=>cases h
end
end Go.Y
namespace Go.Y
open Go Go.RowKit Go.X
section
variable {Y:Go.Y.Sys}
structure An(Y:Sys) where
 lp:List (Nat×LA):=[]
 jn:List (Nat×LA):=[]
 pr:List (Nat×Nat):=[]
 im:List Nat:=[]
 wr:List Nat:=[]
 oc:List Nat:=[]
 tk:List Nat:=[]
 hd:List (Nat×List Nat):=[]
 tw:List Nat:=[]
 il:(q:FuncId)->Option (TG Y q):=λ_=>none
def fnX(sigs:FuncId->Option Bs)(NY:TypeId->Option (List Ty×List Ty))(pf:(q:FuncId)->Option (PF Y q))(F:Func)(σ:Bs)(n:An Y)(a:IS Y σ.args)(H:HH Y)(Q:Lq Y σ.res->Nz Y σ.args->HH Y->Prop)(X:TF Y):Prop:=match F.body with
 |some c=>Fu (Nat.ble σ.args.length F.ntmps) (TD {N:=F.ntmps,NY:=NY,sigs:=sigs,pf:=pf,X:=X,lp:=n.lp,jn:=n.jn,pr:=n.pr,im:=n.im,wr:=n.wr,oc:=n.oc,tk:=n.tk,hd:=n.hd,tw:=n.tw,il:=n.il} c (ini σ.args a H) {nx:=rtX F.results.toList σ Q,ex:=[],rt:=rtX F.results.toList σ Q})
 |none=>False
theorem UK{sigs:FuncId->Option Bs}{NY:TypeId->Option (List Ty×List Ty)}{pf:(q:FuncId)->Option (PF Y q)}{q:FuncId}{F:Func}{σ:Bs}{n:An Y}{a:IS Y σ.args}{H:HH Y}{Q:Lq Y σ.res->Nz Y σ.args->HH Y->Prop}{X:TF Y}(hf:Y.P.funcs[q]?=some F)(h:fnX sigs NY pf F σ n a H Q X):Wp Y q σ a H Q X:=by
 unfold fnX at h;split at h
 .rename_i c hc;obtain⟨h1,h2⟩:=AM h;exact Ah4 (E:={N:=F.ntmps,NY:=NY,sigs:=sigs,pf:=pf,X:=X,lp:=n.lp,jn:=n.jn,pr:=n.pr,im:=n.im,wr:=n.wr,oc:=n.oc,tk:=n.tk,hd:=n.hd,tw:=n.tw,il:=n.il}) hf hc rfl h1 h2
 .exact h.elim
def fnS(sigs:FuncId->Option Bs)(NY:TypeId->Option (List Ty×List Ty))(pf:(q:FuncId)->Option (PF Y q))(F:Func)(σ:Bs)(n:An Y)(a:IS Y σ.args)(H:HH Y)(Q:Lq Y σ.res->Nz Y σ.args->HH Y->Prop)(X:TF Y):Prop:=match F.body with
 |some c=>Fu (Nat.ble σ.args.length F.ntmps) (Ac6 {N:=F.ntmps,NY:=NY,sigs:=sigs,pf:=pf,X:=X,lp:=n.lp,jn:=n.jn,pr:=n.pr,im:=n.im,wr:=n.wr,oc:=n.oc,tk:=n.tk,hd:=n.hd,tw:=n.tw,il:=n.il} c (rtX F.results.toList σ Q) (rtX F.results.toList σ Q) (ini σ.args a H))
 |none=>False
theorem Ah3{sigs:FuncId->Option Bs}{NY:TypeId->Option (List Ty×List Ty)}{pf:(q:FuncId)->Option (PF Y q)}{q:FuncId}{F:Func}{σ:Bs}{n:An Y}{a:IS Y σ.args}{H:HH Y}{Q:Lq Y σ.res->Nz Y σ.args->HH Y->Prop}{X:TF Y}(hf:Y.P.funcs[q]?=some F)(h:fnS sigs NY pf F σ n a H Q X):Wp Y q σ a H Q X:=by
 unfold fnS at h;split at h
 .rename_i c hc;obtain⟨h1,h2⟩:=AM h;exact Adt (E:={N:=F.ntmps,NY:=NY,sigs:=sigs,pf:=pf,X:=X,lp:=n.lp,jn:=n.jn,pr:=n.pr,im:=n.im,wr:=n.wr,oc:=n.oc,tk:=n.tk,hd:=n.hd,tw:=n.tw,il:=n.il}) hf hc rfl h1 h2
 .exact h.elim
theorem Jp.A1x{P:Program}{t:TypeId}{κ:Type}{r1 r2:AT κ}{dq:DecidableEq κ}(h:∀I w v k,@AT.rep κ r2 I w v k->@AT.rep κ r1 I w v k)(hk:@Jp P t κ r1 dq):@Jp P t κ r2 dq:=@Jp.mk P t κ r2 dq (λI w v k es ks h1 h2 h3=>@Jp.find P t κ r1 dq hk I w v k es ks (h _ _ _ _ h1) h2 λj a b=>h _ _ _ _ (h3 j a b)) (λI w v k e h1=>@Jp.check P t κ r1 dq hk I w v k e (h _ _ _ _ h1)) (λI w v u k h1 h2=>@Jp.same P t κ r1 dq hk I w v u k (h _ _ _ _ h1) (h _ _ _ _ h2))
def kmI(P:Program)(t:TypeId)(k:Ty):Bool:=match k,P.underlying t with
 | .int .i64,some (.int .i64)=>true
 |_,_=>false
theorem Av8{S:US}{P:Program}{dq:(n:Nat)->DecidableEq (S.D n)}{t:TypeId}{k:Ty}(h:kmI P t k=true):@Jp P t (den S.D k) (RT S k) (Ew S dq k):=by
 unfold kmI at h;split at h
 .rename_i hu;refine Jp.A1x (r1:=inferInstanceAs (AT Int)) (λI w v n hr=>?_) (Jp.int hu);have hr:=AX.1 hr;have h1:IntKind.i64.min=-9223372036854775808:=by decide
  have h2:IntKind.i64.max=9223372036854775807:=by decide
  have h3:=hr.2;unfold Ag at h3;exact⟨hr.1,by omega,by omega⟩
 .cases h
end
end Go.Y
end
namespace Go.Y
open Go Go.RowKit Go.X
section
section
variable {Y:Sys}
def pop(E:Env Y)(o:Op)(c:Cf Y)(K:AV Y->Cf Y->Prop):Prop:=match pfC E o with
 |some r=>pcX c r K
 |none=>vop (prz c o) o K
def Aik(E:Env Y)(ops:Array Oper):List Oper->Cf Y->(Cf Y->Prop)->Prop
 | [],c,k=>k c
 |o::os,c,k=>grd ops o c λt c=>match t with
  |true=>pop E o.op c λa c'=>c'.put E.N o.dst a λc''=>Aik E ops os c'' k
  |false=>c.put E.N o.dst (.val undef) λc''=>Aik E ops os c'' k
theorem Zb{E:Env Y}{g0:B3}{T:Bh}{ops:Array Oper}{R:List PanicEntry->World->Prop}{w:World}{K:Fr->World->Prop}{k:Cf Y->Prop}:∀(os:List Oper){g:B3}{AH A:Bh}{c:Cf Y}{f:Fr},g.w=w->RG g0 T c f g AH A->Aik E ops os c k->(∀c' f' g' AH' A',g'.w=w->RG g0 T c' f' g' AH' A'->k c'->K f' w)->WL Y.P E.N ops R false K os f w
 | [],g,AH,A,c,f,hw,h,hx,next=>next c f g AH A hw h hx
 |o::os,g,AH,A,c,f,hgw,h,hx,next=>by
  unfold Aik at hx;obtain⟨t,c1,hx,h1,hw⟩:=Z4 h hx;split at hx
  .have rest:∀{v:Value}{a:AV Y}{c':Cf Y}{g':B3}{A':Bh},(c'.put E.N o.dst a λc''=>Aik E ops os c'' k)->g'.w=w->RG g0 T c' f g' AH A'->AR g' a v->WL Y.P E.N ops R false K os (Go.X.put E.N f o.dst v) w:=λ{v a c' g' A'}hk hw' hr ha=>by obtain⟨c2,g2,k1,k2,k3,k4,k5⟩:=hr.put ha hk;exact Zb os (k2.trans hw') k5 k1 next
   obtain⟨dst,op,ty,pos,af,gd⟩:=o;simp only at hx;unfold pop at hx;simp only[WL,hw,if_true];split at hx
   .rename_i r hr;obtain⟨v,a,c',g',k1,k2,k3,k4,k5,k6⟩:=Aed h1 hx;obtain⟨at2,he⟩:=Aec hr;subst he;rw[Tg r.2.1.can];refine⟨rfl,Calls.mono (k6 w (hgw▸Sx.refl g)) λe w' he=>?_⟩;obtain⟨rfl,rfl⟩:=he;exact rest k1 (k2.trans hgw) k4 k5
   .obtain⟨g2,A2,hw2,hle,hr2⟩:=Alp h1 op;obtain⟨v,a,c',g3,k1,m1,m2,k2,k3,k4⟩:=Adv (ty:=ty) hr2 hx;have hy:=k4 g2.w (Sx.refl _);rw[hw2,hgw]at hy;rw[hy dst pos af gd];exact rest k1 (m1.trans (hw2.trans hgw)) k2 k3
  .obtain⟨c2,g2,k1,k2,k3,k4,k5⟩:=h1.put (a:=.val undef) (v:=undef) rfl hx;simp only[WL,hw,Bool.false_eq_true,if_false];exact Zb os (k2.trans hgw) k5 k1 next
def pex(E:Env Y):Code->Cf Y->Ks Y->Prop
 |.skip,c,ks|.label _,c,ks=>ks.nx c
 | .seq a b,c,ks=>pex E a c {ks with nx:=λc'=>pex E b c' ks}
 | .region _ ops d,c,ks=>match d with
  |false=>Aik E ops ops.toList c ks.nx
  |true=>False
 | .cond x a b,c,ks=>match (Ey c x).bind asB with
  |some (.kn true)=>pex E a c ks
  |some (.kn false)=>pex E b c ks
  |some (.pr p _)=>(p->pex E a c ks)/\(¬p->pex E b c ks)
  |none=>False
 | .block id b,c,ks=>pex E b c {ks with ex:=(id,ks.nx)::ks.ex}
 | .exit id,c,ks=>match Z0 ks.ex id with
  |some q=>q c
  |none=>False
 | .ret,c,ks=>ks.rt c
 |_,_,_=>False
structure KsP(Y:Sys)(fn:FK)(N:Nat)(g0:B3)(T:Bh)(R:Qy->World->Prop)(w:World)(ks:Ks Y)(k:List Item):Prop where
 nx:∀c f g AH A,g.w=w->RG g0 T c f g AH A->ks.nx c->WT Y.P fn N k R f w
 ex:∀id q,Z0 ks.ex id=some q->∃k',exitTo id k=some k'/\∀c f g AH A,g.w=w->RG g0 T c f g AH A->q c->WT Y.P fn N k' R f w
 rt:∀c f g AH A k',g.w=w->RG g0 T c f g AH A->ks.rt c->WT Y.P fn N (.code .ret::k') R f w
theorem O3{E:Env Y}{fn:FK}{g0:B3}{T:Bh}{R:Qy->World->Prop}{w:World}:∀(code:Code){ks:Ks Y}{k:List Item}{c:Cf Y}{f:Fr}{g:B3}{AH A:Bh},KsP Y fn E.N g0 T R w ks k->g.w=w->RG g0 T c f g AH A->pex E code c ks->WT Y.P fn E.N (.code code::k) R f w
 | .skip,ks,k,c,f,g,AH,A,hk,hw,h,hx=>Ro (hk.nx c f g AH A hw h hx)
 | .label _,ks,k,c,f,g,AH,A,hk,hw,h,hx=>Aab (hk.nx c f g AH A hw h hx)
 | .seq a b,ks,k,c,f,g,AH,A,hk,hw,h,hx=>by refine D8 (O3 a (ks:={ks with nx:=λc'=>pex E b c' ks}) ⟨λc' f' g' AH' A' hw' hr hx'=>O3 b hk hw' hr hx',λid q hq=>?_,hk.rt⟩ hw h hx);obtain⟨k',h1,h2⟩:=hk.ex id q hq;exact⟨k',h1,h2⟩
 | .region id ops d,ks,k,c,f,g,AH,A,hk,hw,h,hx=>by
  cases d with
  |false=>exact CK (Zb _ hw h hx λc' f' g' AH' A' hw' hr hx'=>hk.nx c' f' g' AH' A' hw' hr hx')
  |true=>exact hx.elim
 | .cond x a b,ks,k,c,f,g,AH,A,hk,hw,h,hx=>by
  simp only[pex]at hx;have bd:∀{p:BV},(Ey c x).bind asB=some p->ev f x=.bool p.val:=λ{p}hp=>by
   cases hz:Ey c x with
   |none=>rw[hz]at hp;cases hp
   |some a=>rw[hz]at hp;exact Nx hp (h.ev hz)
  split at hx
  .rename_i hbb;exact Rn (bd hbb) (O3 a hk hw h hx)
  .rename_i hbb;exact NZ (bd hbb) (O3 b hk hw h hx)
  .rename_i p d hbb;exact @Aac _ _ _ _ _ _ _ _ _ _ p d (bd hbb) (λhp=>O3 a hk hw h (hx.1 hp)) (λhp=>O3 b hk hw h (hx.2 hp))
  .exact hx.elim
 | .block id b,ks,k,c,f,g,AH,A,hk,hw,h,hx=>by
  refine KE (O3 b (ks:={ks with ex:=(id,ks.nx)::ks.ex}) ⟨λc' f' g' AH' A' hw' hr hx'=>KD (hk.nx c' f' g' AH' A' hw' hr hx'),λid' q hq=>?_,hk.rt⟩ hw h hx);simp only[Z0]at hq;by_cases he:id=id'
  .rw[if_pos he]at hq;cases hq;subst he;exact⟨k,by simp [exitTo],hk.nx⟩
  .rw[if_neg he]at hq;obtain⟨k',h1,h2⟩:=hk.ex id' q hq;exact⟨k',by simp [exitTo,he,h1],h2⟩
 | .exit id,ks,k,c,f,g,AH,A,hk,hw,h,hx=>by
  simp only[pex]at hx;split at hx
  .rename_i q hq;obtain⟨k',h1,h2⟩:=hk.ex id q hq;exact U1 h1 (h2 c f g AH A hw h hx)
  .exact hx.elim
 | .ret,ks,k,c,f,g,AH,A,hk,hw,h,hx=>hk.rt c f g AH A k hw h hx
 |.loop _,_,_,_,_,_,_,_,_,_,_,hx|.rangeFunc _ _ _ _,_,_,_,_,_,_,_,_,_,_,hx|.scope _,_,_,_,_,_,_,_,_,_,_,hx|.goto _,_,_,_,_,_,_,_,_,_,_,hx|.refuse _,_,_,_,_,_,_,_,_,_,_,hx=>hx.elim
def Am8:List (AV Y)->Nat->List (Nat×AV Y)
 | [],_=>[]
 |a::l,i=>(i,a)::Am8 l (i+1)
theorem Agv{g:B3}{f:Fr}:∀{l:List (AV Y)}{vs:List Value}{i:Nat},F2 (AR g) l vs->(∀j v,vs[j]?=some v->f (i+j)=v)->∀j a,Hu (Am8 l i) j=some a->AR g a (f j)
 | [],_,i,_,_=>by intro j a h;simp [Am8,Hu]at h
 |a::l,v::vs,i,.cons h1 h2,hf=>Sb (Q:=λj b=>AR g b (f j)) (by show AR g a (f i);rw[<-hf 0 v rfl]at h1;exact h1) (Agv h2 λj u hu=>by have:=hf (j+1) u (by simpa using hu);rwa [Nat.add_assoc,Nat.add_comm 1 j])
def rtP(res:List ResultVar)(rs:List Ty)(F:Iq Y rs)(c:Cf Y):Prop:=PV c res λas=>match mkT rs as with
 |some x=>x=F
 |none=>False
def pfP(pf:(q:FuncId)->Option (PF Y q))(fn:Func)(as rs:List Ty)(a:Iq Y as)(F:Iq Y rs):Prop:=match fn.body with
 |some c=>Fu (Nat.ble as.length fn.ntmps) (pex {N:=fn.ntmps,NY:=λ_=>none,sigs:=λ_=>none,pf:=pf,X:=λ_ _ _=>False,lp:=[],jn:=[],pr:=[],im:=[]} c {fr:=Am8 (P7 as a) 0,sg:=[],nx:=0,H:=λ_=>none,op:=none,hs:=[],pt:=[]} {nx:=rtP fn.results.toList rs F,ex:=[],rt:=rtP fn.results.toList rs F})
 |none=>False
theorem Afv:∀{ts:List Ty}{x:Iq Y ts},(vlT ts x).length=ts.length
 | [],_=>rfl
 |_::_,_=>by simp [vlT,Afv]
theorem KQ{pf:(q:FuncId)->Option (PF Y q)}{q:FuncId}{fn:Func}{as rs:List Ty}(hf:Y.P.funcs[q]?=some fn)(pa:plT as=true)(pr:plT rs=true){a:Iq Y as}{F:Iq Y rs}(hr:rgT as a)(h:pfP pf fn as rs a F)(I:BY)(w:World)(hG:Gw Y I w):Calls Y.P q ⟨vlT as a⟩ w λe w'=>e=.returned (JX (vlT rs F))/\w'=w/\rgT rs F:=by
 unfold pfP at h;split at h
 .rename_i code hb;obtain⟨hl,h⟩:=AM h;refine Il (N:=fn.ntmps) hf hb rfl (by rw[Afv];exact Nat.le_of_ble_eq_true hl) ?_;let g:B3:={I:=I,w:=w,n:=0,μ:=λ_=>undef,φ:=WI (vlT as a)}
  have hF:F2 (AR g) (P7 as a) (vlT as a):=Ph ((SZ pa).2 ⟨rfl,hr⟩);have hrg:RG g [] {fr:=Am8 (P7 as a) 0,sg:=[],nx:=0,H:=λ_=>none,op:=none,hs:=[],pt:=[]} (WI (vlT as a)) g [] []:=
   ⟨rfl,Ext.refl _ _,⟨hG.1,λp hp=>by simp at hp,by simp⟩,⟨⟨[],λb=>rfl,rfl,hG.2⟩⟩,rfl,λx hx=>(by cases hx),λt ht=>rfl,Agv hF λj v hj=>by rw[Nat.zero_add,<-L6,hj];rfl⟩
  have fin:∀(c:Cf Y)(f:Fr)(g':B3)(AH' A':Bh),g'.w=w->RG g [] c f g' AH' A'->rtP fn.results.toList rs F c->(∀arr,Is fn.ntmps arr f->(results fn arr).run Y.P w=.ok (JX (vlT rs F)) w)/\rgT rs F:=λc f g' AH' A' hw hr' hx=>by
   obtain⟨as',us,n1,n2,n3⟩:=Oz (N:=fn.ntmps) hr' hx;split at n1
   .rename_i x hx';subst n1;obtain⟨h1,h2⟩:=(SZ pr).1 (Zr hx' n2);rw[hw]at n3;exact⟨λarr ha=>by rw[<-h1];exact Gx (n3 arr ha),h2⟩
   .exact n1.elim
  refine O3 (E:={N:=fn.ntmps,NY:=λ_=>none,sigs:=λ_=>none,pf:=pf,X:=λ_ _ _=>False,lp:=[],jn:=[],pr:=[],im:=[]}) code (k:=[]) ⟨λc f g' AH' A' hw hr hx=>?_,λid q hq=>by simp [Z0]at hq,λc f g' AH' A' k' hw hr hx=>?_⟩ rfl hrg h
  .obtain⟨h1,h2⟩:=fin c f g' AH' A' hw hr hx;exact SP ⟨_,h1,rfl,rfl,h2⟩
  .obtain⟨h1,h2⟩:=fin c f g' AH' A' hw hr hx;exact MW ⟨_,h1,rfl,rfl,h2⟩
 .exact h.elim
end
end
end Go.Y
section
namespace Go.Y
open Go Go.RowKit Go.X
def dup(p:Prop):Prop:=p/\p
theorem Wh{p:Prop}(h:p):dup p:=⟨h,h⟩
section
variable {P:Program} {t e:TypeId} {w:World}
theorem XM(he:P.underlying e=some (.int .i64))(x y:Int):(part e #[.int .i64 x,.int .i64 y] (0*1)).run P w=.ok (.int .i64 x) w/\(part e #[.int .i64 x,.int .i64 y] (1*1)).run P w=.ok (.int .i64 y) w:=by constructor<;>simp [part,isAgg,run_underlying he]
theorem TN{a b c d:Int}(ht:P.underlying t=some (.array 2 e))(he:P.underlying e=some (.int .i64))(hs:(sizeOf e).run P w=.ok 1 w):(Op.equal t (.agg ⟨[.int .i64 a,.int .i64 b]⟩) (.agg ⟨[.int .i64 c,.int .i64 d]⟩)).run P w=.ok (a==c&&b==d) w:=by
 have hp:=@XM P e w he;have h1:∀n(x y:Int),(Op.equalIn (n+1) e (.int .i64 x) (.int .i64 y)).run P w=.ok (x == y) w:=λn x y=>by simp [Op.equalIn,run_underlying he]
 simp only[Op.equal,Op.maxDepth];unfold Op.equalIn;simp only[Sem.run_bind,run_underlying ht,Result.andThen_ok,hs];simp [Std.Legacy.Range.forIn_eq_forIn_range',List.range',hs,hp,h1];by_cases h2:a=c<;>by_cases h3:b=d<;>simp [h2,h3]
theorem Aaw{a b:Int}{em:Bool}(ht:P.underlying t=some (.array 2 e))(he:P.underlying e=some (.int .i64))(hs:(sizeOf e).run P w=.ok 1 w):(Instr.checkKey em 10000 t (.agg ⟨[.int .i64 a,.int .i64 b]⟩)).run P w=.ok () w:=by
 have hp:=@XM P e w he;have h1:∀n(x:Int),(Instr.checkKey em (n+1) e (.int .i64 x)).run P w=.ok () w:=λn x=>by simp [Instr.checkKey,run_underlying he]
 unfold Instr.checkKey;simp only[Sem.run_bind,run_underlying ht,Result.andThen_ok,hs];simp [Std.Legacy.Range.forIn_eq_forIn_range',List.range',hs,hp,h1]
theorem Jp.two{κ:Type}[r:AT κ][DecidableEq κ]{p q:κ->Int}(hr:∀I w v k,rep I w v k->v=.agg ⟨[.int .i64 (p k),.int .i64 (q k)]⟩)(hi:∀k l,p k=p l->q k=q l->k=l)(ht:P.underlying t=some (.array 2 e))(he:P.underlying e=some (.int .i64))(hs:∀w,(sizeOf e).run P w=.ok 1 w):Jp P t κ where
 find I w v k es ks hv hl hk:=by
  obtain rfl:=hr _ _ _ _ hv;have ask:∀(es:List MapEntry)(ks:List κ)(n:Nat),es.length=ks.length->(∀j(h:j<es.length)(h':j<ks.length),es[j].key=.agg ⟨[.int .i64 (p ks[j]),.int .i64 (q ks[j])]⟩)->
    (Instr.findAsking t (.agg ⟨[.int .i64 (p k),.int .i64 (q k)]⟩) es n).run P w=.ok ((ks.findIdx? (·==k)).bind λi=>(es[i]?).map λe=>(n+i,e.val)) w:=by
   intro es
   induction es with
   |nil=>intro ks n h _;cases ks with
    |nil=>rfl
    |cons=>simp at h
   |cons e0 es ih=>
    intro ks n h hk;cases ks with
    |nil=>simp at h
    |cons k0 ks=>
     have h0:=hk 0 (by simp) (by simp);simp only[List.getElem_cons_zero]at h0;have hrest:=ih ks (n+1) (by simpa using h) λj h1 h2=>by have:=hk (j+1) (by simp;omega) (by simp;omega);simpa using this
     unfold Instr.findAsking;simp only[Sem.run_bind,h0,TN ht he (hs w),Result.andThen_ok];by_cases hkk:k0=k
     .subst hkk;simp [List.findIdx?_cons]
     .have:(p k == p k0&&q k == q k0)=false:=by rw[Bool.eq_false_iff];intro h2;simp only[Bool.and_eq_true,beq_iff_eq]at h2;exact hkk (hi _ _ h2.1.symm h2.2.symm)
      simp only[this,Bool.false_eq_true,if_false,hrest];have hb:(k0 == k)=false:=by simpa using hkk
      rw[List.findIdx?_cons,hb];simp only[Bool.false_eq_true,if_false];cases List.findIdx? (λx=>x == k) ks with
      |none=>rfl
      |some i=>simp [Nat.add_assoc,Nat.add_comm 1 i]
  have hes:∀j(h:j<es.length)(h':j<ks.length),es[j].key=.agg ⟨[.int .i64 (p ks[j]),.int .i64 (q ks[j])]⟩:=λj h h'=>hr _ _ _ _ (hk j h h');simp only[Instr.findKey,Sem.run_bind,run_underlying ht,Result.andThen_ok];cases es with
  |nil=>cases ks with
   |nil=>simp [Instr.findNow]
   |cons=>simp at hl
  |cons e0 es=>
   have:Instr.findNow (.array 2 e) (.agg ⟨[.int .i64 (p k),.int .i64 (q k)]⟩) (e0::es) 0=none:=by simp [Instr.findNow,Instr.sameNow]
   rw[this];have:=ask (e0::es) ks 0 hl hes;simp only[Nat.zero_add]at this;exact this
 check I w v k em hv:=by obtain rfl:=hr _ _ _ _ hv;exact Aaw ht he (hs w)
 same I w v u k hv hu:=by obtain rfl:=hr _ _ _ _ hv;obtain rfl:=hr _ _ _ _ hu;simp [Instr.sameBits]
def arB(P:Program)(t:TypeId):Bool:=match P.underlying t with
 |some (.array 2 e)=>match P.underlying e,P.info? e with
  |some (.int .i64),some i=>Nat.beq i.size 1
  |_,_=>false
 |_=>false
theorem Aoo(h:arB P t=true):∃e,P.underlying t=some (.array 2 e)/\P.underlying e=some (.int .i64)/\∀w,(sizeOf e).run P w=.ok 1 w:=by
 unfold arB at h;split at h
 .rename_i e ht;split at h
  .rename_i i he hi;have hs:=Nat.eq_of_beq_eq_true h;refine⟨e,ht,he,λw=>?_⟩;rw[run_sizeOf w hi];simp [Program.cellsOf,hi,hs]
  .cases h
 .cases h
theorem Agr{S:US}{dq:(n:Nat)->DecidableEq (S.D n)}{n:Nat}{p q:S.D n->Int}(hf:∀x,S.flat n x=[⟨.int .i64,p x⟩,⟨.int .i64,q x⟩])(hi:∀x y,p x=p y->q x=q y->x=y)(h:arB P t=true):@Jp P t (den S.D (.u n)) (RT S (.u n)) (Ew S dq (.u n)):=by
 obtain⟨e,h1,h2,h3⟩:=Aoo h;refine @Jp.two P t e _ (RT S (.u n)) (Ew S dq (.u n)) p q (λI w v k hv=>?_) hi h1 h2 h3;obtain⟨cs,rfl,hF⟩:=Hq.1 hv;rw[hf]at hF;cases hF with
 |cons a1 a2=>cases a2 with
  |cons b1 b2=>
   cases b2;obtain⟨rfl,_⟩:=AX.1 a1;obtain⟨rfl,_⟩:=AX.1 b1;rfl
end
end Go.Y
namespace Go.Y
open Go Go.RowKit Go.X
section
variable {P:Program} {t e:TypeId} {w:World}
theorem Aig(he:P.underlying e=some (.int .i64))(x y z:Int):(part e #[.int .i64 x,.int .i64 y,.int .i64 z] (0*1)).run P w=.ok (.int .i64 x) w/\(part e #[.int .i64 x,.int .i64 y,.int .i64 z] (1*1)).run P w=.ok (.int .i64 y) w/\(part e #[.int .i64 x,.int .i64 y,.int .i64 z] (2*1)).run P w=.ok (.int .i64 z) w:=by refine⟨?_,?_,?_⟩<;>simp [part,isAgg,run_underlying he]
variable {a b a' b':Int}
theorem Aav{c c':Int}(d:Nat)(ht:P.underlying t=some (.array 3 e))(he:P.underlying e=some (.int .i64))(hs:(sizeOf e).run P w=.ok 1 w):(Op.equalIn (d+2) t (.agg ⟨[.int .i64 a,.int .i64 b,.int .i64 c]⟩) (.agg ⟨[.int .i64 a',.int .i64 b',.int .i64 c']⟩)).run P w=.ok (a==a'&&(b==b'&&c==c')) w:=by
 have hp:=@Aig P e w he;have h1:∀n(x y:Int),(Op.equalIn (n+1) e (.int .i64 x) (.int .i64 y)).run P w=.ok (x == y) w:=λn x y=>by simp [Op.equalIn,run_underlying he]
 unfold Op.equalIn;simp only[Sem.run_bind,run_underlying ht,Result.andThen_ok,hs];simp [Std.Legacy.Range.forIn_eq_forIn_range',List.range',hs,hp,h1];by_cases h2:a=a'<;>by_cases h3:b=b'<;>by_cases h4:c=c'<;>simp [h2,h3,h4]
def ksB(P:Program)(t:TypeId):Bool:=!(P.eqGuardType P.depth t)&&!(P.stoodInHeld t)&&(match P.underlying t with
 |some (.struct ⟨[f,g]⟩)=>Nat.beq f.offset 0&&Nat.beq g.offset 1&&!(f.name== "_")&&!(g.name== "_")&&Gn P f.type (An3 .i64)&&(match P.info? g.type with
  |some i=>Nat.beq i.size 3
  |none=>false)&&(match P.underlying g.type with
  |some (.array 3 e)=>Gn P e (An3 .i64)&&(match P.info? e with
   |some i=>Nat.beq i.size 1
   |none=>false)
  |_=>false)
 |_=>false)
theorem XL{n:Nat}(h:(match P.info? e with|some i=>Nat.beq i.size n|none=>false)=true):(sizeOf e).run P w=.ok n w:=by
 split at h
 .rename_i i hi;rw[run_sizeOf w hi];simp [Program.cellsOf,hi,Nat.eq_of_beq_eq_true h]
 .cases h
theorem Am1(h:ksB P t=true){o c o' c':Int}:P.eqGuardType P.depth t=false/\(Op.equal t (.agg ⟨[.int .i64 o,.int .i64 a,.int .i64 b,.int .i64 c]⟩) (.agg ⟨[.int .i64 o',.int .i64 a',.int .i64 b',.int .i64 c']⟩)).run P w=.ok (o==o'&&(a==a'&&(b==b'&&c==c'))) w:=by
 unfold ksB at h;simp only[Bool.and_eq_true,Bool.not_eq_true']at h;obtain⟨⟨h1,h2⟩,h⟩:=h;refine⟨h1,?_⟩;split at h
 .rename_i f g ht;simp only[Bool.and_eq_true,Nat.beq_eq,Bool.not_eq_true',beq_eq_false_iff_ne]at h;obtain⟨⟨⟨⟨⟨⟨hf0,hg0⟩,hfn⟩,hgn⟩,hft⟩,hgs⟩,hga⟩:=h;split at hga
  .rename_i e hge;simp only[Bool.and_eq_true]at hga;have he:=UR hga.1;have hs1:(sizeOf e).run P w=.ok 1 w:=XL hga.2;have hs3:(sizeOf g.type).run P w=.ok 3 w:=XL hgs;have hfu:=UR hft;have p1:∀o a b c:Int,(part f.type #[.int .i64 o,.int .i64 a,.int .i64 b,.int .i64 c] 0).run P w=.ok (.int .i64 o) w:=λo a b c=>by simp [part,isAgg,run_underlying hfu]
   have p2:∀o a b c:Int,(part g.type #[.int .i64 o,.int .i64 a,.int .i64 b,.int .i64 c] 1).run P w=.ok (.agg ⟨[.int .i64 a,.int .i64 b,.int .i64 c]⟩) w:=λo a b c=>by simp [part,isAgg,run_underlying hge,hs3]
   have q1:∀n(x y:Int),(Op.equalIn (n+1) f.type (.int .i64 x) (.int .i64 y)).run P w=.ok (x == y) w:=λn x y=>by simp [Op.equalIn,run_underlying hfu]
   simp only[Op.equal,Op.maxDepth];unfold Op.equalIn;simp only[Sem.run_bind,run_underlying ht,Result.andThen_ok];simp [run_program,h2,hf0,hg0,hfn,hgn,p1,p2,q1 9998,Aav 9997 hge he hs1];by_cases k1:o=o'<;>by_cases k2:a=a'<;>by_cases k3:b=b'<;>by_cases k4:c=c'<;>simp [k1,k2,k3,k4]
  .cases hga
 .cases h
theorem ZQ(h:(arB P t&&!(P.eqGuardType P.depth t))=true):P.eqGuardType P.depth t=false/\(Op.equal t (.agg ⟨[.int .i64 a,.int .i64 b]⟩) (.agg ⟨[.int .i64 a',.int .i64 b']⟩)).run P w=.ok (a == a'&&b == b') w:=by simp only[Bool.and_eq_true,Bool.not_eq_true']at h;obtain⟨e,h1,h2,h3⟩:=Aoo h.1;exact⟨h.2,TN h1 h2 (h3 w)⟩
end
end Go.Y
namespace Go.Y
open Go Go.RowKit Go.X
theorem Aok(a b:ByteArray):(a==b)=decide (a=b):=by
 cases a with
 |mk a=>cases b with
  |mk b=>
   have:(ByteArray.mk a == ByteArray.mk b)=(a == b):=rfl;rw[this];by_cases h:a=b
   .subst h;simp
   .rw[beq_eq_false_iff_ne.2 h];exact(decide_eq_false λe=>h (by injection e)).symm
theorem TW{k:ByteArray}:∀(es:List MapEntry)(ks:List ByteArray)(n:Nat),es.length=ks.length->(∀j(h:j<es.length)(h':j<ks.length),es[j].key=.string ks[j])->Instr.findNow .string (.string k) es n=some ((ks.findIdx? λx=>decide (x=k)).bind λi=>(es[i]?).map λe=>(n+i,e.val))
 | [],[],n,_,_=>rfl
 |[],_::_,_,h,_|_::_,[],_,h,_=>by simp at h
 |e::es,x::ks,n,h,hk=>by
  have h0:e.key=.string x:=hk 0 (by simp) (by simp);have ih:=TW (k:=k) es ks (n+1) (by simpa using h) (λj h1 h2=>hk (j+1) (by simp;omega) (by simp;omega));simp only[Instr.findNow,h0,Instr.sameNow,Aok];by_cases hx:k=x
  .subst hx;simp [List.findIdx?_cons]
  .have hx':¬x=k:=λh=>hx h.symm;rw[decide_eq_false hx];simp only[ih,List.findIdx?_cons,decide_eq_false hx',Bool.false_eq_true,if_false];cases ks.findIdx? (λx=>decide (x=k)) with
   |none=>simp
   |some i=>simp [Nat.add_comm,Nat.add_left_comm]
theorem Jp.A2a{P:Program}{t:TypeId}{r:AT ByteArray}{dq:DecidableEq ByteArray}(hr:∀I w v k,@AT.rep ByteArray r I w v k->v=.string k)(ht:P.underlying t=some .string):@Jp P t ByteArray r dq:=
 @Jp.mk P t ByteArray r dq (λI w v k es ks hv hl hk=>by obtain rfl:=hr _ _ _ _ hv;have:=TW (k:=k) es ks 0 hl (λj h h'=>hr _ _ _ _ (hk j h h'));simp only[Nat.zero_add]at this;simp only[Instr.findKey,Sem.run_bind,run_underlying ht,Result.andThen_ok,this,Sem.run_pure];congr 3;funext x;exact(Bool.eq_iff_iff.2 (by simp)))
 (λI w v k e hv=>by
  obtain rfl:=hr _ _ _ _ hv;have:∀n,(Instr.checkKey e (n+1) t (.string k)).run P w=.ok () w:=λn=>by simp [Instr.checkKey,run_underlying ht]
  exact this 9999)
 (λI w v u k hv hu=>by obtain rfl:=hr _ _ _ _ hv;obtain rfl:=hr _ _ _ _ hu;simp [Instr.sameBits,Aok])
theorem Jp.A19{S:US}{P:Program}{dq:(n:Nat)->DecidableEq (S.D n)}{t:TypeId}(ht:P.underlying t=some .string):@Jp P t (den S.D .str) (RT S .str) (Ew S dq .str):=Jp.A2a (λI w v k h=>(LU.1 h).1) ht
def kmS(P:Program)(t:TypeId)(k:Ty):Bool:=match k,P.underlying t with
 | .str,some .string=>true
 |_,_=>false
theorem Av7{S:US}{P:Program}{dq:(n:Nat)->DecidableEq (S.D n)}{t:TypeId}{k:Ty}(h:kmS P t k=true):@Jp P t (den S.D k) (RT S k) (Ew S dq k):=by
 unfold kmS at h;split at h
 .rename_i hu;exact Jp.A19 hu
 .cases h
end Go.Y
end
