/-
  The Y layer, part z: keys of maps that are pairs of numbers. (Merged by program out of 4 texts.)
-/
import Derived.Test.YtcbkbpjlbmalmaaGreatDoorpai
import Derived.Test.YtcbkbpjlbmalmaaGreatDoorpaj
import Derived.ChangeKeysEq
namespace Go.Y
open Go Go.RowKit Go.X
section
section
variable {Y:Sys}
def Apx:List (AV Y)->Nat->List (Nat×AV Y)
 | [],_=>[]
 |a::as,i=>(i,a)::Apx as (i+1)
theorem Akv{g:Gst}{f:Fr}:∀{as:List (AV Y)}{vs:List Value}{i:Nat},F2 (AR g) as vs->(∀j v,vs[j]?=some v->f (i+j)=v)->∀j a,lkF (Apx as i) j=some a->AR g a (f j)
 | [],_,_,.nil,_,j,a,h=>by simp [Apx,lkF]at h
 |a::as,v::vs,i,.cons h1 h2,hf,j,b,h=>by
  refine Ab2 (Q:=λj b=>AR g b (f j)) (p:=(i,a)) ?_ (Akv h2 λj u hu=>?_) j b h
  .have:=hf 0 v rfl;rw[Nat.add_zero]at this;show AR g a (f i);rw[this];exact h1
  .have:=hf (j+1) u (by simpa using hu);rwa [Nat.add_assoc,Nat.add_comm 1 j]
def Aq9:List (Nat×Seg Y)->List (Nat×Seg Y)
 | []=>[]
 |s::l=>match s.2 with
  | .clo _ _ _=>s::Aq9 l
  |_=>Aq9 l
theorem Amr{g:Gst}:∀{l:List (Nat×Seg Y)}{A:Own},SgR g l A->SgR g (Aq9 l) []
 | [],_,_=>rfl
 |(i,s)::l,A,⟨A1,A2,_,h2,h3,h4⟩=>by
  have ih:=Amr h4;cases s with
  |clo q fs cs=>
   have e:A1=[]:=h3.1;subst e;exact⟨[],[],rfl,h2,h3,ih⟩
  |_=>exact ih
def A3e(c0:Cf Y)(k:AV Y->Cf Y->Prop)(c:Cf Y):List (AV Y)->Prop
 | [a]=>k a {c with fr:=c0.fr,pt:=c0.pt,sg:=c.sg++c0.sg}
 |l=>k (.own c.nx) {c with fr:=c0.fr,pt:=c0.pt,sg:=(c.nx,.tp l)::(c.sg++c0.sg),nx:=c.nx+1}
def Aqt(c0:Cf Y)(res:List ResultVar)(k:AV Y->Cf Y->Prop)(c:Cf Y):Prop:=Y4 c res (A3e c0 k c)
def A8l(E:Env Y)(F:Func)(c:Cf Y)(as:List (AV Y))(X:Pan Y)(k:AV Y->Cf Y->Prop):Prop:=match F.body,c.op with
 |some code,none=>chk (Nat.ble as.length F.ntmps) (aex {E with N:=F.ntmps,X:=X} code {c with fr:=Apx as 0,pt:=[],sg:=Aq9 c.sg} {nx:=Aqt c F.results.toList k,ex:=[],rt:=Aqt c F.results.toList k})
 |_,_=>False
variable {g0 g:Gst} {T AH A:Own} {c:Cf Y} {f:Fr}
theorem RG.back{g':Gst}{AH' A':Own}{c':Cf Y}{f':Fr}(h:RG g0 T c f g AH A)(hl:Lx g g')(h':RG g0 (A++T) c' f' g' AH' A'):Le g {g' with φ:=g.φ}/\RG g0 T {c' with fr:=c.fr,pt:=c.pt,sg:=c'.sg++c.sg} f {g' with φ:=g.φ} AH' (A'++A):=by
 have hle:Le g {g' with φ:=g.φ}:=⟨hl.ext,hl.n,hl.μ,rfl⟩
 have h2:=h'.phi (φ:=g.φ) (pt:=[]) (λt ht=>by simp [inN]at ht);refine⟨hle,h2.n,h2.le,by rw[List.append_assoc];exact h2.st,?_,h2.sg.app (h.sg.mono hle),h2.hs,h.pt,λi a hi=>(h.fr i a hi).mono hle⟩;have:=h2.hr;show HR _ _ _ _ c'.op;cases ho:c'.op with
 |none=>rw[show ({c' with pt:=[]}:Cf Y).op=c'.op from rfl,ho]at this;exact this
 |some o=>rw[show ({c' with pt:=[]}:Cf Y).op=c'.op from rfl,ho]at this;exact this
theorem Asx{g':Gst}{AH' A':Own}{c':Cf Y}{f':Fr}{N:Nat}{res:List ResultVar}{k:AV Y->Cf Y->Prop}{K:Value->World->Prop}(h:RG g0 T c f g AH A)(hl:Lx g g')(h':RG g0 (A++T) c' f' g' AH' A')(hx:Aqt c res k c')(next:∀v a c' g' AH' A',Le g g'->RG g0 T c' f g' AH' A'->AR g' a v->k a c'->K v g'.w):∃vs,(∀a,Is N a f'->(res.mapM (Y3 a)).run Y.P g'.w=.ok vs g'.w)/\K (Qe vs) g'.w:=by
 obtain⟨as,vs,h1,h2,h3⟩:=Wm (N:=N) h' hx;refine⟨vs,h3,?_⟩;obtain⟨hle,hr⟩:=h.back hl h';replace h2:F2 (AR {g' with φ:=g.φ}) as vs:=h2.mono λ_ _ r=>r.phi _;have tup:(∀a,as≠[a])->K (Qe vs) g'.w:=λhne=>by
  have hv:Qe vs=.tuple ⟨vs⟩:=by
   have hlen:=h2.len;cases vs with
   |nil=>rfl
   |cons v vs=>
    cases vs with
    |nil=>
     cases as with
     |nil=>simp at hlen
     |cons a as=>
      cases as with
      |nil=>exact absurd rfl (hne _)
      |cons _ _=>simp at hlen
    |cons _ _=>rfl
  have hk:k (.own c'.nx) {c' with fr:=c.fr,pt:=c.pt,sg:=(c'.nx,.tp as)::(c'.sg++c.sg),nx:=c'.nx+1}:=by
   unfold A3e at h1;split at h1
   .exact absurd rfl (hne _)
   .exact h1
  have hle2:=Le.new (g:={g' with φ:=g.φ}) (v:=.tuple ⟨vs⟩) (Ext.refl g'.I g'.w);have:=hr.new (s:=.tp as) (v:=.tuple ⟨vs⟩) (A1:=[]) (Ext.refl _ _) ⟨rfl,vs,Gst.Cz _ _ _,h2.mono λ_ _ r=>r.mono hle2⟩ hr.st;rw[hv];exact next _ _ _ (Gst.new {g' with φ:=g.φ} g'.w (.tuple ⟨vs⟩)) _ _ (hle.trans hle2) this (J0 hr.n) hk
 by_cases hone:∃a,as=[a]
 .obtain⟨a,rfl⟩:=hone;cases h2 with
  |cons p q=>cases q;exact next _ a _ {g' with φ:=g.φ} _ _ hle hr p h1
 .exact tup λa e=>hone ⟨a,e⟩
def Ab4(E:Env Y)(q:FuncId)(F:Func)(hf:Y.P.funcs[q]?=some F)(hc:En Y.P q=true):Inl Y q where
 tr:=A8l E F
 can:=hc
 ok {g0 g T AH A c f as vs X k} h ha hx R K hR next:=by
  unfold A8l at hx;split at hx
  .rename_i code hb hop;obtain⟨hlen,hx⟩:=Bj hx;have hr:RG g0 (A++T) {c with fr:=Apx as 0,pt:=[],sg:=Aq9 c.sg} (fr0 vs) g AH []:=⟨h.n,h.le,h.st,by have:=h.hr;show HR _ _ _ _ c.op;rw[hop]at this ⊢;exact this,Amr h.sg,h.hs,λt ht=>by simp [inN]at ht,Akv ha λj v hj=>by rw[Nat.zero_add,<-Sg,hj];rfl⟩
   refine Nf (N:=F.ntmps) hf hb rfl (by rw[<-ha.len];exact Nat.le_of_ble_eq_true hlen) ?_;have fin:∀{c' f' g' AH' A'},Lx g g'->RG g0 (A++T) c' f' g' AH' A'->Aqt c F.results.toList k c'->∃v,(∀a,Is F.ntmps a f'->(results F a).run Y.P g'.w=.ok v g'.w)/\K v g'.w:=λhl hr' hx'=>by obtain⟨us,h1,h2⟩:=Asx (N:=F.ntmps) h hl hr' hx' next;exact⟨_,λa ha=>Kh (h1 a ha),h2⟩
   refine Ky (E:={E with N:=F.ntmps,X:=X}) (fn:=⟨q,none,[]⟩) (gb:=g) ?_ code ⟨λc' f' g' AH' A' _ hl hr' hx'=>Acz (fin hl hr' hx'),λid q hq=>by simp [lkE]at hq,λc' f' g' AH' A' k' hl hr' hx'=>Ui (fin hl hr' hx')⟩ (Lx.refl g) hr hx;exact λv w' I' AH' H' t l u h1 h2 h3 h4 h5 h6 _=>hR v w' I' AH' H' t l u h1 (Fv h2) h3 h4 h5 h6
  .exact hx.elim
def mrk(M:List Nat):Own:=M.map λb=>(b,.deferred (some []))
def fkM(q:FuncId)(M:List Nat):FK:=⟨q,none,M.map λb=>⟨.collected b,#[]⟩⟩
variable {q:FuncId} {M:List Nat} {b:Nat}
theorem Ays:(fkM q M).mark b=fkM q (b::M):=rfl
theorem Aju{I:Reg}{w:World}{o o':Obj}(h:St I w ((b,o)::T)):Ext I w I (w.putObj b o')/\St I (w.putObj b o') ((b,o')::T):=by have hb:=(h.own (b,o) (by simp)).1;have hlt:b<w.heap.size:=(Array.getElem?_eq_some_iff.1 hb).1;exact h.write (b:=b) (o:=o) (o':=o') (T:=T) rfl rfl rfl (by simp) (World.putObj_heap_same hlt) λc hc=>World.putObj_heap_other hc
theorem Aby{I:Reg}{B T:Own}:∀(M:List Nat){w:World},St I w (B++(mrk M++T))->∃w',Ext I w I w'/\St I w' (B++T)/\∀{P:Program}{F:Func}{N:Nat}{f:Fr}{R:Ending->World->Prop}{u:FrameMode},u≠.run->Lv P F N f R [] u w'->Lv P F N f R (M.map λb=>⟨.collected b,#[]⟩) u w
 | [],w,h=>⟨w,Ext.refl _ _,h,λ_ h=>h⟩
 |b::M,w,h=>by have h1:St I w ((b,.deferred (some []))::(B++(mrk M++T))):=h.perm (by simp only[mrk,List.map_cons,List.cons_append];exact List.perm_middle);obtain⟨e1,s1⟩:=Aju (o':=.deferred none) h1;obtain⟨w',e2,s2,h2⟩:=Aby M (s1.drop (A:=[(b,.deferred none)]));exact⟨w',e1.trans e2,s2,λhu hl=>⟨hu,.inl ⟨b,rfl,(h1.own _ (List.mem_cons_self)).1,h2 hu hl⟩⟩⟩
theorem Aoe(h:RG g0 (mrk M++T) c f g AH A):∃g',Le g g'/\RG g0 T c f g' AH A/\∀{F:Func}{N:Nat}{f':Fr}{R:Ending->World->Prop}{u:FrameMode},u≠.run->Lv Y.P F N f' R [] u g'.w->Lv Y.P F N f' R (M.map λb=>⟨.collected b,#[]⟩) u g.w:=by
 obtain⟨w',e,s,hl⟩:=Aby (B:=AH++A) M (by rw[List.append_assoc];exact h.st);have hle:Le g {g with w:=w'}:=⟨e,Nat.le_refl _,λ_ _=>rfl,rfl⟩
 exact⟨_,hle,⟨h.n,h.le.trans e,by rw[<-List.append_assoc];exact s,h.hr.mono hle,h.sg.mono hle,h.hs.mono hle,hle.pt h.pt,λi a hi=>(h.fr i a hi).mono hle⟩,λhu hv=>hl hu hv⟩
variable {l:Nat} {r:Loop}
theorem A1f{I:Reg}{w:World}{H:HH Y}(hH:HpR (HK' Y) I w H AH)(s:St I w (AH++T))(hl:H l=some (.lp r)):w.heap[l]?=some (.loop r):=by obtain⟨A1,A2,h1,_,h3⟩:=HpR.take hH hl s;obtain rfl:A1=[(l,.loop r)]:=h1;exact(h3.own (l,.loop r) (by simp)).1
theorem Ab1(h:RG g0 T c f g AH A)(hop:c.op=none)(hl:c.H l=some (.lp r))(r':Loop):g.w.heap[l]?=some (.loop r)/\Le g {g with w:=g.w.putObj l (.loop r')}/\∃AH',RG g0 T {c with H:=Ab c.H l (.lp r')} f {g with w:=g.w.putObj l (.loop r')} AH' A:=by
 have hH:=h.hr;rw[hop]at hH;obtain⟨A1,A2,h1,h2,h3⟩:=HpR.take hH hl h.st;obtain rfl:A1=[(l,.loop r)]:=h1;obtain⟨e,s⟩:=Aju (o':=.loop r') h3;have hle:Le g {g with w:=g.w.putObj l (.loop r')}:=⟨e,Nat.le_refl _,λ_ _=>rfl,rfl⟩
 refine⟨(h3.own (l,.loop r) (by simp)).1,hle,(l,.loop r')::A2,h.n,h.le.trans e,s,?_,h.sg.mono hle,h.hs.mono hle,hle.pt h.pt,λi a hi=>(h.fr i a hi).mono hle⟩;show HR _ _ _ _ c.op;rw[hop];exact HpX.lay (A1:=[(l,.loop r')]) (h2.mono e) rfl
def Dy(r:Loop):Loop:={r with state:=.busy}
def Vy(r:Loop)(j:Code):Loop:={r with state:=.done,pending:=some j}
def Avw:List Tmp->List (AV Y)->List (Nat×AV Y)->List (Nat×AV Y)
 |p::ps,a::as,l=>Avw ps as ((p,a)::l)
 |_,_,l=>l
theorem Arq{N:Nat}{g0 g:Gst}{T AH A:Own}:∀{ps:List Tmp}{as:List (AV Y)}{vs:List Value}{c:Cf Y}{f:Fr},RG g0 T c f g AH A->c.pt=[]->ps.all (λp=>Nat.blt p N)=true->F2 (AR g) as vs->RG g0 T {c with fr:=Avw ps as c.fr} (Aku N ps vs f) g AH A
 | [],_,_,c,f,h,_,_,_=>by simpa [Avw,Aku] using h
 |p::ps,[],_,c,f,h,_,_,.nil=>by simpa [Avw,Aku] using h
 |p::ps,a::as,v::vs,c,f,h,hp,hN,.cons h1 h2=>by simp only[List.all_cons,Bool.and_eq_true]at hN;exact Arq (c:=c.set p a) (h.set (by rw[hp];simp [inN];simpa using hN.1) h1) hp hN.2 h2
def A9f(c:Cf Y)(ps:List Tmp)(as:List (AV Y))(H:HH Y):Cf Y:={fr:=Avw ps as c.fr,sg:=[],nx:=c.nx,H:=H,op:=none,hs:=c.hs,pt:=[]}
def A59(l:Nat)(r:Loop)(j:Option Code)(Q:Tup Y [.bool]->HH Y->Prop)(c:Cf Y):Prop:=cls c λc=>c.H l=some (.lp (Dy r))/\match j with
 |none=>Q (true,()) (Ab c.H l (.lp r))
 |some j=>Q (false,()) (Ab c.H l (.lp (Vy r j)))
def A3o(E:Env Y)(c:Cf Y)(l:Nat)(r:Loop)(ps:List Tmp)(as bd:Code)(ts:List Ty):FT Y ts [.bool]:=λa H Q X=>H l=some (.lp r)/\aex {E with X:=X} as (A9f c ps (Yh ts a) H)
 {nx:=λc1=>cls c1 λc1=>c1.H l=some (.lp r)/\aex {E with X:=X} bd {c1 with H:=Ab c1.H l (.lp (Dy r))} {nx:=A59 l r none Q,ex:=[],rt:=A59 l r (some .ret) Q},ex:=[],rt:=λ_=>False}
theorem Ata{E:Env Y}{q:FuncId}{j:Option Code}(hr1:r.state=.ready)(hr2:r.pending=none){Q:Tup Y [.bool]->HH Y->Prop}{X:Pan Y}(h:RG g0 T c f g AH A)(hx:A59 l r j Q c):A2v Y.P l (Att Y g0.I g0.w T (λI' w' v A' H'=>A'=[]/\∃b us,v=Qe us/\Ah6 Y I' w' [.bool] b us/\Q b H') X) (.lv j f []) g.w:=by
 obtain⟨c1,g1,AH1,A1,⟨h1,h2⟩,hw,hle,hr,_,hop⟩:=Fi h hx;have fin:∀(r':Loop)(b:Bool),r'={Dy r with state:=if j.isNone then .ready else .done,pending:=j}->j.isNone=b->Q (b,()) (Ab c1.H l (.lp r'))->A2v Y.P l (Att Y g0.I g0.w T (λI' w' v A' H'=>A'=[]/\∃b us,v=Qe us/\Ah6 Y I' w' [.bool] b us/\Q b H') X) (.lv j f []) g.w:=λr' b e eb hq=>by
  obtain⟨k1,k2,AH2,k3⟩:=Ab1 hr hop h1 r';refine⟨_,_,by rw[<-hw];exact run_endRound j k1,.inl ⟨_,g1.I,rfl,?_,AH2,[],_,?_,?_,rfl,(b,()),[.bool b],by rw[<-eb];rfl,⟨_,[],rfl,Nt.2 rfl,rfl⟩,hq⟩⟩
  .rw[<-e];exact k3.le
  .rw[<-e];exact Fv k3.st
  .have:=k3.hr;rw[<-e];change HR _ _ _ _ c1.op at this;rw[hop]at this;exact this
 cases j with
 |none=>exact fin r true (by cases r;simp [Dy]at *;exact⟨hr1,hr2⟩) rfl h2
 |some j=>exact fin (Vy r j) false (by simp [Dy,Vy]) rfl h2
variable {E:Env Y}
theorem A3n{F:Func}(hF:Y.P.funcs[q]?=some F)(h:RG g0 T c f g AH A){a0:Array Value}(ha0:Is E.N a0 f){ps:Array Tmp}{as bd:Code}{ts:List Ty}(hps:ps.size=ts.length)(hpN:ps.toList.all (λp=>Nat.blt p E.N)=true):FvR Y ts [.bool] (A3o E c l (Aew q a0 ps as bd b) ps.toList as bd ts) g.I g.w (.func (.yield l) #[] #[]):=by
 refine⟨⟨_,_,_,rfl⟩,λa H Q X⟨hl,hx⟩I w e T' AH' vs hvs hH hst=>.inr ⟨l,_,rfl,A1f hH hst hl,?_,?_⟩⟩
 .show vs.length=ps.size;rw[hps];have:∀{ts:List Ty}{a:Tup Y ts}{vs:List Value},Ah6 Y I w ts a vs->vs.length=ts.length:=by
   intro ts;induction ts with
   |nil=>intro a vs h;rw[show vs=[] from h];rfl
   |cons t ts ih=>intro a vs h;obtain⟨v,vs',h1,_,h3⟩:=h;rw[h1];simp [ih h3]
  exact this hvs
 .let g3:Gst:={g with I:=I,w:=w}
  have hle:Le g g3:=⟨e,Nat.le_refl _,λ_ _=>rfl,rfl⟩
  have base:RG g3 T' {c with sg:=[],H:=H,op:=none,pt:=[]} f g3 AH' []:=⟨h.n,Ext.refl _ _,hst,hH,rfl,h.hs.mono hle,λt ht=>by simp [inN]at ht,λi a hi=>(h.fr i a hi).mono hle⟩
  have hr:=Arq (N:=E.N) base rfl hpN (Xq (g:=g3) hvs);refine Aue (N:=E.N) ⟨F,hF⟩ (A5o ha0) ?_;have hRX:Kz g3 T' X ((⟨q,some l,[]⟩:FK).at (A2v Y.P l (Att Y I w T' (λI' w' r A' H'=>A'=[]/\∃b us,r=Qe us/\Ah6 Y I' w' [.bool] b us/\Q b H') X))):=λv w' I' AH' H' t l u h1 h2 h3 h4 h5 h6 _=>.inr ⟨v,I',rfl,h1,AH',H',t,l,u,h2,h3,h4,h5,h6⟩;refine Ky (E:={E with X:=X}) (fn:=⟨q,some l,[]⟩) (gb:=g3) hRX as ⟨λc1 f1 g1 AH1 A1 _ hlx hr1 hx1=>?_,λid q hq=>by simp [lkE]at hq,λc1 f1 g1 AH1 A1 k' hlx hr1 hx1=>False.elim hx1⟩ (Lx.refl _) hr hx;dsimp only at hx1;obtain⟨c2,g2,AH2,A2,⟨hl2,hx2⟩,hw2,hle2,hr2,_,hop2⟩:=Fi hr1 hx1;obtain⟨k1,k2,AH3,k3⟩:=Ab1 hr2 hop2 hl2 (Dy (Aew q a0 ps as bd b));rw[<-hw2];refine Aic rfl (run_beginRound k1 rfl) ?_;have:=Ky (E:={E with X:=X}) (fn:=⟨q,some l,[]⟩) (k:=[]) (gb:={g2 with w:=g2.w.putObj l (.loop (Dy (Aew q a0 ps as bd b)))}) hRX bd ⟨λc1 f1 g1 AH1 A1 _ hlx hr1 hx1=>Acz (Ata (E:=E) (q:=q) rfl rfl hr1 hx1),λid q hq=>by simp [lkE]at hq,λc1 f1 g1 AH1 A1 k' hlx hr1 hx1=>Ui (Ata (E:=E) (q:=q) rfl rfl hr1 hx1)⟩ (Lx.refl _) k3 hx2;exact this
def rfX(E:Env Y)(gop:Operand)(ps:Array Tmp)(as bd:Code)(c:Cf Y)(nx rt:Cf Y->Prop):Prop:=cls c λc=>match evA c gop with
 |some (.own j)=>match lkS c.sg j with
  |some (.clo q fs cs)=>match E.sigs q with
   |some ⟨.fn ts [.bool]::_,_⟩=>chk (Nat.beq ps.size ts.length&&ps.toList.all λp=>Nat.blt p E.N) (∀l r,c.H l=none->
    Ah0 E.sigs E.X {c with H:=Ab c.H l (.lp r)} q (fs++([.fn ts [.bool] (A3o E c l r ps.toList as bd ts)]++cs)) λ_ c2=>cls c2 λc2=>
     (c2.H l=some (.lp r)/\∀r',nx {c2 with H:=Ab c2.H l (.lp r')})∨(c2.H l=some (.lp (Vy r .ret))/\∀r',rt {c2 with H:=Ab c2.H l (.lp r')}))
   |_=>False
  |_=>False
 |_=>False
theorem A7l(x y:Nat×Obj)(B C D E:Own):(x::(y::(B++(C++(D++E))))).Perm ((x::B)++(C++((y::D)++E))):=by simp only[List.cons_append];refine List.Perm.cons _ ?_;rw[<-List.append_assoc B C,<-List.append_assoc B C];exact List.perm_middle.symm
theorem A7m(x y:Nat×Obj)(B C:Own):(x::(y::(B++C))).Perm (x::(B++(y::C))):=List.Perm.cons _ List.perm_middle.symm
theorem A35(h:RG g0 (mrk M++T) c f g AH A)(hop:c.op=none)(r:Loop):c.H (g.w.heap.size+1)=none/\∃g2 AH',g2.w=(g.w.alloc (.deferred (some []))).alloc (.loop r)/\Le g g2/\RG g0 (mrk (g.w.heap.size::M)++T) {c with H:=Ab c.H (g.w.heap.size+1) (.lp r)} f g2 AH' A:=by
 have hH:=h.hr;rw[hop]at hH;obtain⟨e1,s1⟩:=h.st.alloc (.deferred (some []));obtain⟨e2,s2⟩:=s1.alloc (.loop r);have hsz:(g.w.alloc (.deferred (some []))).heap.size=g.w.heap.size+1:=by simp
 rw[hsz]at s2;have e12:=e1.trans e2;let g2:Gst:={g with w:=(g.w.alloc (.deferred (some []))).alloc (.loop r)}
 have hle2:Le g g2:=⟨e12,Nat.le_refl _,λ_ _=>rfl,rfl⟩
 have hH2:HpR (HK' Y) g2.I g2.w c.H AH:=HpR.mono hH e12;have s2':St g2.I g2.w ((g.w.heap.size+1,.loop r)::((g.w.heap.size,.deferred (some []))::(AH++(A++(mrk M++T))))):=s2;have hfr:c.H (g.w.heap.size+1)=none:=Ab9 hH2 (s2'.perm (A7m _ _ _ _));refine⟨hfr,g2,(g.w.heap.size+1,.loop r)::AH,rfl,hle2,h.n,h.le.trans e12,s2'.perm (A7l _ _ _ _ _ _),?_,h.sg.mono hle2,h.hs.mono hle2,hle2.pt h.pt,λi a hi=>(h.fr i a hi).mono hle2⟩;show HR _ _ _ _ c.op;rw[hop];exact HpR.new (A1:=[(g.w.heap.size+1,.loop r)]) hH2 rfl
theorem A36{q0:FuncId}{F0:Func}(hF:Y.P.funcs[q0]?=some F0){R:Xit->World->Prop}(hR:∀M,Kz g0 (mrk M++T) E.X ((fkM q0 M).at R)){gop:Operand}{ps:Array Tmp}{as bd:Code}(h:RG g0 (mrk M++T) c f g AH A){nx rt:Cf Y->Prop}{k:List Item}(hx:rfX E gop ps as bd c nx rt)(hnx:∀M c f g' AH A,Lx g g'->RG g0 (mrk M++T) c f g' AH A->nx c->WT Y.P (fkM q0 M) E.N k R f g'.w)(hrt:∀M c f g' AH A k',Lx g g'->RG g0 (mrk M++T) c f g' AH A->rt c->WT Y.P (fkM q0 M) E.N (.code .ret::k') R f g'.w):WT Y.P (fkM q0 M) E.N (.code (.rangeFunc gop ps as bd)::k) R f g.w:=by
 obtain⟨c1,g1,AH1,A1,hx,hw,hle,h1,_,hop⟩:=Fi h hx;rw[<-hw];split at hx
 .rename_i j ha;split at hx
  .rename_i q fs cs hs;split at hx
   .rename_i ts ks res hsg;obtain⟨hc,hx⟩:=Bj hx;simp only[Bool.and_eq_true,Nat.beq_eq]at hc;obtain⟨C1,C2,_,_,⟨_,vs,us,h3,h4,h5⟩,_⟩:=h1.sg.take hs;have hg:ev f gop=.func (.func q) ⟨vs⟩ ⟨us⟩:=(h1.ev ha).2.trans h3;refine Akx rfl hg λa haN=>?_;obtain⟨hfr,g2,AH2,hw2,hle2,h2⟩:=A35 h1 hop (Aew q0 a ps as bd g1.w.heap.size);have hy:AR g2 (.fn ts [.bool] (A3o E c1 (g1.w.heap.size+1) (Aew q0 a ps as bd g1.w.heap.size) ps.toList as bd ts)) (.func (.yield (g1.w.heap.size+1)) #[] #[]):=A3n (c:={c1 with H:=Ab c1.H (g1.w.heap.size+1) (.lp (Aew q0 a ps as bd g1.w.heap.size))}) hF h2 haN hc.1 hc.2;obtain⟨hcan,hcall⟩:=Xi h2 (hx _ _ hfr) ((h4.mono λ_ _ r=>r.mono hle2).app ((F2.cons hy .nil).app (h5.mono λ_ _ r=>r.mono hle2)));refine⟨hcan,?_⟩;have key:=hcall (λch w=>R (.pan ch f (fkM q0 (g1.w.heap.size::M)).ds) w) (λ_ w'=>∃r,w'.heap[g1.w.heap.size+1]?=some (.loop r)/\r.state≠.busy/\WT Y.P (fkM q0 (g1.w.heap.size::M)) E.N ((r.pending.map Item.code).toList++k) R f (w'.putObj (g1.w.heap.size+1) (.loop {r with state:=.exhausted})))
     (λv w' I' AH' H' t l u h1 h2 h3 h4 h5 h6=>hR (g1.w.heap.size::M) v w' I' AH' H' t l u h1 h2 h3 h4 h5 h6 f) (λv a' c3 g3 AH3 A3 hle3 hr3 _ hk3=>by
      obtain⟨c4,g4,AH4,A4,hk4,hw4,hle4,hr4,_,hop4⟩:=Fi hr3 hk3;rw[<-hw4];have hl4:=hle.trans (hle2.trans (hle3.trans hle4));rcases hk4 with ⟨hl,hk4⟩|⟨hl,hk4⟩
      .obtain⟨k1,k2,AH5,k3⟩:=Ab1 hr4 hop4 hl {Aew q0 a ps as bd g1.w.heap.size with state:=.exhausted};exact⟨_,k1,λe=>(by cases e),hnx _ _ _ _ _ _ (hl4.trans k2).lx k3 (hk4 _)⟩
      .obtain⟨k1,k2,AH5,k3⟩:=Ab1 hr4 hop4 hl {Vy (Aew q0 a ps as bd g1.w.heap.size) .ret with state:=.exhausted};exact⟨_,k1,λe=>(by cases e),hrt _ _ _ _ _ _ k (hl4.trans k2).lx k3 (hk4 _)⟩)
    have hargs:(⟨(⟨vs⟩:Array Value).toList++[.func (.yield (g1.w.heap.size+1)) #[] #[]]++(⟨us⟩:Array Value).toList⟩:Array Value)=⟨vs++([.func (.yield (g1.w.heap.size+1)) #[] #[]]++us)⟩:=congrArg Array.mk (List.append_assoc _ _ _);have hw3:(g1.w.alloc (.deferred (some []))).alloc (.loop (Aew (fkM q0 M).fn a ps as bd g1.w.heap.size))=g2.w:=hw2.symm;rw[hargs,hw3,Ays];refine Calls.mono key λe w' he=>?_;rcases he with ⟨v,I',rfl,_,r,x1,x2,x3⟩|⟨v,I',rfl,_,hh⟩
    .exact⟨r,x1,x2,x3⟩
    .exact hh
   .exact hx.elim
  .exact hx.elim
 .exact hx.elim
def Aps(E:Env Y):Code->(Cf Y->Prop)->(Cf Y->Prop)->Cf Y->Prop
 | .seq a b,nx,rt,c=>match mrC a b with
  |some q=>mrX E q c nx rt
  |none=>Aps E a (Aps E b nx rt) rt c
 | .block id b,nx,rt,c=>match b with
  | .rangeFunc g ps as bd=>rfX E g ps as bd c nx rt
  |b=>aex E (.block id b) c ⟨nx,[],rt⟩
 |code,nx,rt,c=>aex E code c ⟨nx,[],rt⟩
theorem Ats{q0:FuncId}{F0:Func}(hF:Y.P.funcs[q0]?=some F0){R:Xit->World->Prop}(hR:∀M,Kz g0 (mrk M++T) E.X ((fkM q0 M).at R)):∀(code:Code){nx rt:Cf Y->Prop}{k:List Item}{M:List Nat}{c:Cf Y}{f:Fr}{g gb:Gst}{AH A:Own},(∀M c f g AH A,Lx gb g->RG g0 (mrk M++T) c f g AH A->nx c->WT Y.P (fkM q0 M) E.N k R f g.w)->(∀M c f g AH A k',Lx gb g->RG g0 (mrk M++T) c f g AH A->rt c->WT Y.P (fkM q0 M) E.N (.code .ret::k') R f g.w)->Lx gb g->RG g0 (mrk M++T) c f g AH A->Aps E code nx rt c->WT Y.P (fkM q0 M) E.N (.code code::k) R f g.w:=by
 intro code;have plain:∀(code:Code){nx rt:Cf Y->Prop}{k:List Item}{M:List Nat}{c:Cf Y}{f:Fr}{g gb:Gst}{AH A:Own},(∀M c f g AH A,Lx gb g->RG g0 (mrk M++T) c f g AH A->nx c->WT Y.P (fkM q0 M) E.N k R f g.w)->(∀M c f g AH A k',Lx gb g->RG g0 (mrk M++T) c f g AH A->rt c->WT Y.P (fkM q0 M) E.N (.code .ret::k') R f g.w)->
   Lx gb g->RG g0 (mrk M++T) c f g AH A->aex E code c ⟨nx,[],rt⟩->WT Y.P (fkM q0 M) E.N (.code code::k) R f g.w:=λcode nx rt k M c f g gb AH A hnx hrt hb hr hx=>
  Ky (fn:=fkM q0 M) (gb:=gb) (hR M) code ⟨λc f g AH A _ hl hr hx=>hnx M c f g AH A hl hr hx,λid q hq=>by simp [lkE]at hq,λc f g AH A k' hl hr hx=>hrt M c f g AH A k' hl hr hx⟩ hb hr hx
 induction code with
 |seq a b iha ihb=>
  intro nx rt k M c f g gb AH A hnx hrt hb hr hx;unfold Aps at hx;split at hx
  .rename_i q hq;exact A46 (fn:=fkM q0 M) hq (hR M) hb hr hx (λc f g AH A _ hl hr hx=>hnx M c f g AH A hl hr hx) λc f g AH A k' hl hr hx=>hrt M c f g AH A k' hl hr hx
  .exact Fo (iha (λM c f g AH A hl hr hx=>ihb hnx hrt hl hr hx) hrt hb hr hx)
 |block id b _=>
  intro nx rt k M c f g gb AH A hnx hrt hb hr hx;unfold Aps at hx;split at hx
  .exact Q8 (A36 hF hR hr hx (λM c f g AH A hl hr hx=>Q7 (hnx M c f g AH A (hb.trans hl) hr hx)) λM c f g AH A k' hl hr hx=>hrt M c f g AH A k' (hb.trans hl) hr hx)
  .exact plain _ hnx hrt hb hr hx
 |_=>exact plain _
theorem Ap0{σ:Sig}{F:Func}{code:Code}{a:N8 Y σ.args}{H:HH Y}{Q:R2 Y σ.res->U6 Y σ.args->HH Y->Prop}(hf:Y.P.funcs[q]?=some F)(hb:F.body=some code)(hN:F.ntmps=E.N)(hl:Nat.ble σ.args.length E.N=true)(h:Aps E code (rtX F.results.toList σ Q) (rtX F.results.toList σ Q) (ini σ.args a H)):Wp Y q σ a H Q E.X:=by
 intro I w T A AH vs hargs hH hst;refine Zz hf hb hN (by rw[Amu hargs];exact hl) ?_;let gi:Gst:={I:=I,w:=w,n:=0,μ:=λ_=>undef,φ:=fr0 vs}
 obtain⟨g,k1,k2,k3,k4,k5,k6,k7⟩:=Afi (g:=gi) (i:=0) (f:=fr0 vs) hargs (λj v hj=>by rw[Nat.zero_add,<-Sg,hj];rfl);have hr:RG gi (mrk []++T) (ini σ.args a H) (fr0 vs) g AH A:=⟨k4,k1.ext,by rw[k2,k3];exact hst,by show HpR _ _ _ _ _;rw[k2,k3];exact hH,k6,λx hx=>(by cases hx),λt ht=>(by simp [ini,inN]at ht),k5⟩
 have fin:∀(M:List Nat)(c:Cf Y)(f:Fr)(g':Gst)(AH' A':Own),Lx g g'->RG gi (mrk M++T) c f g' AH' A'->rtX F.results.toList σ Q c->Lv Y.P F E.N f (Atu I w (λv I' w'=>∃AH' A' H',St I' w' (AH'++(A'++T))/\HpR (HK' Y) I' w' H' AH'/\∃b io us A1 A2,A'=A1++A2/\v=Qe us/\ReR Y I' w' σ.res b us A1/\IoR Y I' w' σ.args io vs A2/\Q b io H') (λv I' w'=>∃AH' H' t l u,St I' w' (AH'++T)/\HpR (HK' Y) I' w' H' AH'/\v=.iface t u/\rp Y.toUS l.t I' w' u l.x/\E.X t l H')) (fkM q M).ds .returning g'.w:=λM c f g' AH' A' hlx hr hx=>by obtain⟨g2,hle2,hr2,hlv⟩:=Aoe hr;refine hlv (λe=>by cases e) ?_;obtain⟨v,h1,v',I',h2,h3,h4⟩:=Awp k7 (hlx.trans hle2.lx) hr2 hx;exact⟨v,h1,.inl ⟨v',I',h2,h3,h4⟩⟩
 have hR:∀M,Kz gi (mrk M++T) E.X ((fkM q M).at (Avq Y.P F E.N (Atu I w (λv I' w'=>∃AH' A' H',St I' w' (AH'++(A'++T))/\HpR (HK' Y) I' w' H' AH'/\∃b io us A1 A2,A'=A1++A2/\v=Qe us/\ReR Y I' w' σ.res b us A1/\IoR Y I' w' σ.args io vs A2/\Q b io H') (λv I' w'=>∃AH' H' t l u,St I' w' (AH'++T)/\HpR (HK' Y) I' w' H' AH'/\v=.iface t u/\rp Y.toUS l.t I' w' u l.x/\E.X t l H')))):=λM v w' I' AH' H' t l u h1 h2 h3 h4 h5 h6 f=>by obtain⟨w2,e2,s2,hlv⟩:=Aby M h2;exact hlv (λe=>by cases e) (.inr ⟨v,I',rfl,h1.trans e2,AH',H',t,l,u,s2,HpR.mono h3 e2,h4,Ig e2 h5,h6⟩)
 have:=Ats (E:=E) (M:=[]) (k:=[]) (gb:=g) hf hR code (λM c f g' AH' A' hlx hr hx=>Acz (fin M c f g' AH' A' hlx hr hx)) (λM c f g' AH' A' k' hlx hr hx=>Ui (fin M c f g' AH' A' hlx hr hx)) (Lx.refl g) hr h;rw[k2]at this;exact this
def A3d(E:Env Y)(F:Func)(c:Cf Y)(as:List (AV Y))(X:Pan Y)(k:AV Y->Cf Y->Prop):Prop:=match F.body,c.op with
 |some code,none=>chk (Nat.ble as.length F.ntmps) (Aps {E with N:=F.ntmps,X:=X} code (Aqt c F.results.toList k) (Aqt c F.results.toList k) {c with fr:=Apx as 0,pt:=[],sg:=Aq9 c.sg})
 |_,_=>False
def A5u(E:Env Y)(q:FuncId)(F:Func)(hf:Y.P.funcs[q]?=some F)(hc:En Y.P q=true):Inl Y q where
 tr:=A3d E F
 can:=hc
 ok {g0 g T AH A c f as vs X k} h ha hx R K hR next:=by
  unfold A3d at hx;split at hx
  .rename_i code hb hop;obtain⟨hlen,hx⟩:=Bj hx;have hr:RG g0 (mrk []++(A++T)) {c with fr:=Apx as 0,pt:=[],sg:=Aq9 c.sg} (fr0 vs) g AH []:=⟨h.n,h.le,h.st,by have:=h.hr;show HR _ _ _ _ c.op;rw[hop]at this ⊢;exact this,Amr h.sg,h.hs,λt ht=>by simp [inN]at ht,Akv ha λj v hj=>by rw[Nat.zero_add,<-Sg,hj];rfl⟩
   refine Nf (N:=F.ntmps) hf hb rfl (by rw[<-ha.len];exact Nat.le_of_ble_eq_true hlen) ?_;have fin:∀{M c' f' g' AH' A'},Lx g g'->RG g0 (mrk M++(A++T)) c' f' g' AH' A'->Aqt c F.results.toList k c'->Lv Y.P F F.ntmps f' (λe w'=>match e with | .returned v=>K v w' | .panicked ch=>R ch w' | .outgrown=>False) (M.map λb=>⟨.collected b,#[]⟩) .returning g'.w:=λ{M c' f' g' AH' A'}hl hr' hx'=>by obtain⟨g2,hle2,hr2,hlv⟩:=Aoe hr';refine hlv (λe=>by cases e) ?_;obtain⟨us,h1,h2⟩:=Asx (N:=F.ntmps) h (hl.trans hle2.lx) hr2 hx' next;exact⟨_,λa ha=>Kh (h1 a ha),h2⟩
   have hR':∀M,Kz g0 (mrk M++(A++T)) X ((fkM q M).at (Avq Y.P F F.ntmps (λe w'=>match e with | .returned v=>K v w' | .panicked ch=>R ch w' | .outgrown=>False))):=λM v w' I' AH' H' t l u h1 h2 h3 h4 h5 h6 f'=>by obtain⟨w2,e2,s2,hlv⟩:=Aby M h2;exact hlv (λe=>by cases e) (hR v w2 I' AH' H' t l u (h1.trans e2) (Fv s2) (HpR.mono h3 e2) h4 (Ig e2 h5) h6)
   exact Ats (E:={E with N:=F.ntmps,X:=X}) (M:=[]) (k:=[]) (gb:=g) hf hR' code (λM c' f' g' AH' A' hl hr' hx'=>Acz (fin hl hr' hx')) (λM c' f' g' AH' A' k' hl hr' hx'=>Ui (fin hl hr' hx')) (Lx.refl g) hr hx
  .exact hx.elim
end
end
end Go.Y
section
namespace Go.Y
open Go Go.RowKit Go.X
section
variable {D:Nat->Type} {α:Type}
def tk(t:Ty)(l:List (Lf D))(k:den D t->List (Lf D)->Option α):Option α:=match l with
 | []=>none
 |⟨t',x⟩::l=>match Ty.dec t' t with
  | .isTrue h=>k (h▸x) l
  | .isFalse _=>none
variable {t:Ty} {r:α}
theorem Bn{l:List (Lf D)}{k:den D t->List (Lf D)->Option α}(h:tk t l k=some r):∃x l',l=⟨t,x⟩::l'/\k x l'=some r:=by
 unfold tk at h;split at h
 .cases h
 .split at h
  .rename_i e _;subst e;exact⟨_,_,rfl,h⟩
  .cases h
def nl(l:List (Lf D))(r:Option α):Option α:=match l with
 | []=>r
 |_::_=>none
theorem Ll{l:List (Lf D)}{r:Option α}{x:α}(h:nl l r=some x):l=[]/\r=some x:=by
 cases l with
 |nil=>exact⟨rfl,h⟩
 |cons=>cases h
def tkD(t:Ty)(l:List (OL D))(k:den D t->List (OL D)->Option α):Option α:=match l with
 | .dat ⟨t',x⟩::l=>match Ty.dec t' t with
  | .isTrue h=>k (h▸x) l
  | .isFalse _=>none
 |_=>none
variable {l:List (OL D)}
theorem Ar{k:den D t->List (OL D)->Option α}(h:tkD t l k=some r):∃x l',l=.dat ⟨t,x⟩::l'/\k x l'=some r:=by
 unfold tkD at h;split at h
 .split at h
  .rename_i e _;subst e;exact⟨_,_,rfl,h⟩
  .cases h
 .cases h
def tkO(t:Ty)(l:List (OL D))(k:List (den D t)->List (OL D)->Option α):Option α:=match l with
 | .own t' x::l=>match Ty.dec t' t with
  | .isTrue h=>k (h▸x) l
  | .isFalse _=>none
 |_=>none
theorem Fp{k:List (den D t)->List (OL D)->Option α}(h:tkO t l k=some r):∃x l',l=.own t x::l'/\k x l'=some r:=by
 unfold tkO at h;split at h
 .split at h
  .rename_i e _;subst e;exact⟨_,_,rfl,h⟩
  .cases h
 .cases h
def tkM(t e:Ty)(l:List (OL D))(k:List (den D t×den D e)->List (OL D)->Option α):Option α:=match l with
 | .map t' e' x::l=>match Ty.dec t' t,Ty.dec e' e with
  | .isTrue h,.isTrue h'=>k (h▸h'▸x) l
  |_,_=>none
 |_=>none
theorem Wc{e:Ty}{k:List (den D t×den D e)->List (OL D)->Option α}(h:tkM t e l k=some r):∃x l',l=.map t e x::l'/\k x l'=some r:=by
 unfold tkM at h;split at h
 .split at h
  .rename_i e1 e2 _ _;subst e1;subst e2;exact⟨_,_,rfl,h⟩
  .cases h
 .cases h
def tkN(t:Ty)(l:List (OL D))(k:Option (List (den D t))->List (OL D)->Option α):Option α:=match l with
 | .ownO t' x::l=>match Ty.dec t' t with
  | .isTrue h=>k (h▸x) l
  | .isFalse _=>none
 |_=>none
theorem A3w{k:Option (List (den D t))->List (OL D)->Option α}(h:tkN t l k=some r):∃x l',l=.ownO t x::l'/\k x l'=some r:=by
 unfold tkN at h;split at h
 .split at h
  .rename_i e _;subst e;exact⟨_,_,rfl,h⟩
  .cases h
 .cases h
def nlO(l:List (OL D))(r:Option α):Option α:=match l with
 | []=>r
 |_::_=>none
theorem Br{r:Option α}{x:α}(h:nlO l r=some x):l=[]/\r=some x:=by
 cases l with
 |nil=>exact⟨rfl,h⟩
 |cons=>cases h
end
end Go.Y
namespace Go.Y
open Go Go.RowKit Go.X
section
variable {Y:Go.Y.Sys}
structure An(Y:Sys) where
 lp:List (Nat×LA):=[]
 jn:List (Nat×LA):=[]
 pr:List (Nat×Nat):=[]
 im:List Nat:=[]
 wr:List Nat:=[]
 oc:List Nat:=[]
 tk:List Nat:=[]
 hd:List (Nat×List Nat):=[]
 tw:List Nat:=[]
 il:(q:FuncId)->Option (Inl Y q):=λ_=>none
def fnX(sigs:FuncId->Option Sig)(fty:TypeId->Option (List Ty×List Ty))(pf:(q:FuncId)->Option (PF Y q))(F:Func)(σ:Sig)(n:An Y)(a:N8 Y σ.args)(H:HH Y)(Q:R2 Y σ.res->U6 Y σ.args->HH Y->Prop)(X:Pan Y):Prop:=match F.body with
 |some c=>chk (Nat.ble σ.args.length F.ntmps) (aex {N:=F.ntmps,fty:=fty,sigs:=sigs,pf:=pf,X:=X,lp:=n.lp,jn:=n.jn,pr:=n.pr,im:=n.im,wr:=n.wr,oc:=n.oc,tk:=n.tk,hd:=n.hd,tw:=n.tw,il:=n.il} c (ini σ.args a H) {nx:=rtX F.results.toList σ Q,ex:=[],rt:=rtX F.results.toList σ Q})
 |none=>False
theorem Av0{sigs:FuncId->Option Sig}{fty:TypeId->Option (List Ty×List Ty)}{pf:(q:FuncId)->Option (PF Y q)}{q:FuncId}{F:Func}{σ:Sig}{n:An Y}{a:N8 Y σ.args}{H:HH Y}{Q:R2 Y σ.res->U6 Y σ.args->HH Y->Prop}{X:Pan Y}(hf:Y.P.funcs[q]?=some F)(h:fnX sigs fty pf F σ n a H Q X):Wp Y q σ a H Q X:=by
 unfold fnX at h;split at h
 .rename_i c hc;obtain⟨h1,h2⟩:=Bj h;exact At2 (E:={N:=F.ntmps,fty:=fty,sigs:=sigs,pf:=pf,X:=X,lp:=n.lp,jn:=n.jn,pr:=n.pr,im:=n.im,wr:=n.wr,oc:=n.oc,tk:=n.tk,hd:=n.hd,tw:=n.tw,il:=n.il}) hf hc rfl h1 h2
 .exact h.elim
def fnS(sigs:FuncId->Option Sig)(fty:TypeId->Option (List Ty×List Ty))(pf:(q:FuncId)->Option (PF Y q))(F:Func)(σ:Sig)(n:An Y)(a:N8 Y σ.args)(H:HH Y)(Q:R2 Y σ.res->U6 Y σ.args->HH Y->Prop)(X:Pan Y):Prop:=match F.body with
 |some c=>chk (Nat.ble σ.args.length F.ntmps) (Aps {N:=F.ntmps,fty:=fty,sigs:=sigs,pf:=pf,X:=X,lp:=n.lp,jn:=n.jn,pr:=n.pr,im:=n.im,wr:=n.wr,oc:=n.oc,tk:=n.tk,hd:=n.hd,tw:=n.tw,il:=n.il} c (rtX F.results.toList σ Q) (rtX F.results.toList σ Q) (ini σ.args a H))
 |none=>False
theorem At1{sigs:FuncId->Option Sig}{fty:TypeId->Option (List Ty×List Ty)}{pf:(q:FuncId)->Option (PF Y q)}{q:FuncId}{F:Func}{σ:Sig}{n:An Y}{a:N8 Y σ.args}{H:HH Y}{Q:R2 Y σ.res->U6 Y σ.args->HH Y->Prop}{X:Pan Y}(hf:Y.P.funcs[q]?=some F)(h:fnS sigs fty pf F σ n a H Q X):Wp Y q σ a H Q X:=by
 unfold fnS at h;split at h
 .rename_i c hc;obtain⟨h1,h2⟩:=Bj h;exact Ap0 (E:={N:=F.ntmps,fty:=fty,sigs:=sigs,pf:=pf,X:=X,lp:=n.lp,jn:=n.jn,pr:=n.pr,im:=n.im,wr:=n.wr,oc:=n.oc,tk:=n.tk,hd:=n.hd,tw:=n.tw,il:=n.il}) hf hc rfl h1 h2
 .exact h.elim
theorem O4.A85{P:Program}{t:TypeId}{κ:Type}{r1 r2:Rep κ}{dq:DecidableEq κ}(h:∀I w v k,@Rep.rep κ r2 I w v k->@Rep.rep κ r1 I w v k)(hk:@O4 P t κ r1 dq):@O4 P t κ r2 dq:=@O4.mk P t κ r2 dq (λI w v k es ks h1 h2 h3=>@O4.find P t κ r1 dq hk I w v k es ks (h _ _ _ _ h1) h2 λj a b=>h _ _ _ _ (h3 j a b)) (λI w v k e h1=>@O4.check P t κ r1 dq hk I w v k e (h _ _ _ _ h1)) (λI w v u k h1 h2=>@O4.same P t κ r1 dq hk I w v u k (h _ _ _ _ h1) (h _ _ _ _ h2))
def kmI(P:Program)(t:TypeId)(k:Ty):Bool:=match k,P.underlying t with
 | .int .i64,some (.int .i64)=>true
 |_,_=>false
theorem A5m{S:US}{P:Program}{dq:(n:Nat)->DecidableEq (S.D n)}{t:TypeId}{k:Ty}(h:kmI P t k=true):@O4 P t (den S.D k) (RT S k) (G5 S dq k):=by
 unfold kmI at h;split at h
 .rename_i hu;refine O4.A85 (r1:=inferInstanceAs (Rep Int)) (λI w v n hr=>?_) (O4.int hu);have hr:=Bq.1 hr;have h1:IntKind.i64.min=-9223372036854775808:=by decide
  have h2:IntKind.i64.max=9223372036854775807:=by decide
  have h3:=hr.2;unfold InK at h3;exact⟨hr.1,by omega,by omega⟩
 .cases h
end
end Go.Y
end
namespace Go.Y
open Go Go.RowKit Go.X
section
section
variable {Y:Sys}
def pop(E:Env Y)(o:Op)(c:Cf Y)(K:AV Y->Cf Y->Prop):Prop:=match pfC E o with
 |some r=>pcX c r K
 |none=>vop (prz c o) o K
def Auh(E:Env Y)(ops:Array Oper):List Oper->Cf Y->(Cf Y->Prop)->Prop
 | [],c,k=>k c
 |o::os,c,k=>grd ops o c λt c=>match t with
  |true=>pop E o.op c λa c'=>c'.put E.N o.dst a λc''=>Auh E ops os c'' k
  |false=>c.put E.N o.dst (.val undef) λc''=>Auh E ops os c'' k
theorem All{E:Env Y}{g0:Gst}{T:Own}{ops:Array Oper}{R:List PanicEntry->World->Prop}{w:World}{K:Fr->World->Prop}{k:Cf Y->Prop}:∀(os:List Oper){g:Gst}{AH A:Own}{c:Cf Y}{f:Fr},g.w=w->RG g0 T c f g AH A->Auh E ops os c k->(∀c' f' g' AH' A',g'.w=w->RG g0 T c' f' g' AH' A'->k c'->K f' w)->WL Y.P E.N ops R false K os f w
 | [],g,AH,A,c,f,hw,h,hx,next=>next c f g AH A hw h hx
 |o::os,g,AH,A,c,f,hgw,h,hx,next=>by
  unfold Auh at hx;obtain⟨t,c1,hx,h1,hw⟩:=Ama h hx;split at hx
  .have rest:∀{v:Value}{a:AV Y}{c':Cf Y}{g':Gst}{A':Own},(c'.put E.N o.dst a λc''=>Auh E ops os c'' k)->g'.w=w->RG g0 T c' f g' AH A'->AR g' a v->WL Y.P E.N ops R false K os (Go.X.put E.N f o.dst v) w:=λ{v a c' g' A'}hk hw' hr ha=>by obtain⟨c2,g2,k1,k2,k3,k4,k5⟩:=hr.put ha hk;exact All os (k2.trans hw') k5 k1 next
   obtain⟨dst,op,ty,pos,af,gd⟩:=o;simp only at hx;unfold pop at hx;simp only[WL,hw,if_true];split at hx
   .rename_i r hr;obtain⟨v,a,c',g',k1,k2,k3,k4,k5,k6⟩:=Aqi h1 hx;obtain⟨at2,he⟩:=Aqh hr;subst he;rw[Adc r.2.1.can];refine⟨rfl,Calls.mono (k6 w (hgw▸Sx.refl g)) λe w' he=>?_⟩;obtain⟨rfl,rfl⟩:=he;exact rest k1 (k2.trans hgw) k4 k5
   .obtain⟨g2,A2,hw2,hle,hr2⟩:=Aw0 h1 op;obtain⟨v,a,c',g3,k1,m1,m2,k2,k3,k4⟩:=Ap2 (ty:=ty) hr2 hx;have hy:=k4 g2.w (Sx.refl _);rw[hw2,hgw]at hy;rw[hy dst pos af gd];exact rest k1 (m1.trans (hw2.trans hgw)) k2 k3
  .obtain⟨c2,g2,k1,k2,k3,k4,k5⟩:=h1.put (a:=.val undef) (v:=undef) rfl hx;simp only[WL,hw,Bool.false_eq_true,if_false];exact All os (k2.trans hgw) k5 k1 next
def pex(E:Env Y):Code->Cf Y->Ks Y->Prop
 | .skip,c,ks=>ks.nx c
 | .label _,c,ks=>ks.nx c
 | .seq a b,c,ks=>pex E a c {ks with nx:=λc'=>pex E b c' ks}
 | .region _ ops d,c,ks=>match d with
  |false=>Auh E ops ops.toList c ks.nx
  |true=>False
 | .cond x a b,c,ks=>match (evA c x).bind asB with
  |some (.kn true)=>pex E a c ks
  |some (.kn false)=>pex E b c ks
  |some (.pr p _)=>(p->pex E a c ks)/\(¬p->pex E b c ks)
  |none=>False
 | .block id b,c,ks=>pex E b c {ks with ex:=(id,ks.nx)::ks.ex}
 | .exit id,c,ks=>match lkE ks.ex id with
  |some q=>q c
  |none=>False
 | .ret,c,ks=>ks.rt c
 |_,_,_=>False
structure KsP(Y:Sys)(fn:FK)(N:Nat)(g0:Gst)(T:Own)(R:Xit->World->Prop)(w:World)(ks:Ks Y)(k:List Item):Prop where
 nx:∀c f g AH A,g.w=w->RG g0 T c f g AH A->ks.nx c->WT Y.P fn N k R f w
 ex:∀id q,lkE ks.ex id=some q->∃k',exitTo id k=some k'/\∀c f g AH A,g.w=w->RG g0 T c f g AH A->q c->WT Y.P fn N k' R f w
 rt:∀c f g AH A k',g.w=w->RG g0 T c f g AH A->ks.rt c->WT Y.P fn N (.code .ret::k') R f w
theorem Ws{E:Env Y}{fn:FK}{g0:Gst}{T:Own}{R:Xit->World->Prop}{w:World}:∀(code:Code){ks:Ks Y}{k:List Item}{c:Cf Y}{f:Fr}{g:Gst}{AH A:Own},KsP Y fn E.N g0 T R w ks k->g.w=w->RG g0 T c f g AH A->pex E code c ks->WT Y.P fn E.N (.code code::k) R f w
 | .skip,ks,k,c,f,g,AH,A,hk,hw,h,hx=>Aax (hk.nx c f g AH A hw h hx)
 | .label _,ks,k,c,f,g,AH,A,hk,hw,h,hx=>Am2 (hk.nx c f g AH A hw h hx)
 | .seq a b,ks,k,c,f,g,AH,A,hk,hw,h,hx=>by refine Fo (Ws a (ks:={ks with nx:=λc'=>pex E b c' ks}) ⟨λc' f' g' AH' A' hw' hr hx'=>Ws b hk hw' hr hx',λid q hq=>?_,hk.rt⟩ hw h hx);obtain⟨k',h1,h2⟩:=hk.ex id q hq;exact⟨k',h1,h2⟩
 | .region id ops d,ks,k,c,f,g,AH,A,hk,hw,h,hx=>by
  cases d with
  |false=>exact Ef (All _ hw h hx λc' f' g' AH' A' hw' hr hx'=>hk.nx c' f' g' AH' A' hw' hr hx')
  |true=>exact hx.elim
 | .cond x a b,ks,k,c,f,g,AH,A,hk,hw,h,hx=>by
  simp only[pex]at hx;have bd:∀{p:BV},(evA c x).bind asB=some p->ev f x=.bool p.val:=λ{p}hp=>by
   cases hz:evA c x with
   |none=>rw[hz]at hp;cases hp
   |some a=>rw[hz]at hp;exact U4 hp (h.ev hz)
  split at hx
  .rename_i hbb;exact Aaw (bd hbb) (Ws a hk hw h hx)
  .rename_i hbb;exact V3 (bd hbb) (Ws b hk hw h hx)
  .rename_i p d hbb;exact @Am3 _ _ _ _ _ _ _ _ _ _ p d (bd hbb) (λhp=>Ws a hk hw h (hx.1 hp)) (λhp=>Ws b hk hw h (hx.2 hp))
  .exact hx.elim
 | .block id b,ks,k,c,f,g,AH,A,hk,hw,h,hx=>by
  refine Q8 (Ws b (ks:={ks with ex:=(id,ks.nx)::ks.ex}) ⟨λc' f' g' AH' A' hw' hr hx'=>Q7 (hk.nx c' f' g' AH' A' hw' hr hx'),λid' q hq=>?_,hk.rt⟩ hw h hx);simp only[lkE]at hq;by_cases he:id=id'
  .rw[if_pos he]at hq;cases hq;subst he;exact⟨k,by simp [exitTo],hk.nx⟩
  .rw[if_neg he]at hq;obtain⟨k',h1,h2⟩:=hk.ex id' q hq;exact⟨k',by simp [exitTo,he,h1],h2⟩
 | .exit id,ks,k,c,f,g,AH,A,hk,hw,h,hx=>by
  simp only[pex]at hx;split at hx
  .rename_i q hq;obtain⟨k',h1,h2⟩:=hk.ex id q hq;exact Afa h1 (h2 c f g AH A hw h hx)
  .exact hx.elim
 | .ret,ks,k,c,f,g,AH,A,hk,hw,h,hx=>hk.rt c f g AH A k hw h hx
 | .loop _,_,_,_,_,_,_,_,_,_,_,hx=>hx.elim
 | .rangeFunc _ _ _ _,_,_,_,_,_,_,_,_,_,_,hx=>hx.elim
 | .scope _,_,_,_,_,_,_,_,_,_,_,hx=>hx.elim
 | .goto _,_,_,_,_,_,_,_,_,_,_,hx=>hx.elim
 | .refuse _,_,_,_,_,_,_,_,_,_,_,hx=>hx.elim
def Ayg:List (AV Y)->Nat->List (Nat×AV Y)
 | [],_=>[]
 |a::l,i=>(i,a)::Ayg l (i+1)
theorem Asw{g:Gst}{f:Fr}:∀{l:List (AV Y)}{vs:List Value}{i:Nat},F2 (AR g) l vs->(∀j v,vs[j]?=some v->f (i+j)=v)->∀j a,lkF (Ayg l i) j=some a->AR g a (f j)
 | [],_,i,_,_=>by intro j a h;simp [Ayg,lkF]at h
 |a::l,v::vs,i,.cons h1 h2,hf=>Ab2 (Q:=λj b=>AR g b (f j)) (by show AR g a (f i);rw[<-hf 0 v rfl]at h1;exact h1) (Asw h2 λj u hu=>by have:=hf (j+1) u (by simpa using hu);rwa [Nat.add_assoc,Nat.add_comm 1 j])
def rtP(res:List ResultVar)(rs:List Ty)(F:Tup Y rs)(c:Cf Y):Prop:=Y4 c res λas=>match mkT rs as with
 |some x=>x=F
 |none=>False
def pfP(pf:(q:FuncId)->Option (PF Y q))(fn:Func)(as rs:List Ty)(a:Tup Y as)(F:Tup Y rs):Prop:=match fn.body with
 |some c=>chk (Nat.ble as.length fn.ntmps) (pex {N:=fn.ntmps,fty:=λ_=>none,sigs:=λ_=>none,pf:=pf,X:=λ_ _ _=>False,lp:=[],jn:=[],pr:=[],im:=[]} c {fr:=Ayg (Yh as a) 0,sg:=[],nx:=0,H:=λ_=>none,op:=none,hs:=[],pt:=[]} {nx:=rtP fn.results.toList rs F,ex:=[],rt:=rtP fn.results.toList rs F})
 |none=>False
theorem Arw:∀{ts:List Ty}{x:Tup Y ts},(vlT ts x).length=ts.length
 | [],_=>rfl
 |_::_,_=>by simp [vlT,Arw]
theorem Rg{pf:(q:FuncId)->Option (PF Y q)}{q:FuncId}{fn:Func}{as rs:List Ty}(hf:Y.P.funcs[q]?=some fn)(pa:plT as=true)(pr:plT rs=true){a:Tup Y as}{F:Tup Y rs}(hr:rgT as a)(h:pfP pf fn as rs a F)(I:Reg)(w:World)(hG:Gw Y I w):Calls Y.P q ⟨vlT as a⟩ w λe w'=>e=.returned (Qe (vlT rs F))/\w'=w/\rgT rs F:=by
 unfold pfP at h;split at h
 .rename_i code hb;obtain⟨hl,h⟩:=Bj h;refine Nf (N:=fn.ntmps) hf hb rfl (by rw[Arw];exact Nat.le_of_ble_eq_true hl) ?_;let g:Gst:={I:=I,w:=w,n:=0,μ:=λ_=>undef,φ:=fr0 (vlT as a)}
  have hF:F2 (AR g) (Yh as a) (vlT as a):=Xq ((Ac5 pa).2 ⟨rfl,hr⟩);have hrg:RG g [] {fr:=Ayg (Yh as a) 0,sg:=[],nx:=0,H:=λ_=>none,op:=none,hs:=[],pt:=[]} (fr0 (vlT as a)) g [] []:=
   ⟨rfl,Ext.refl _ _,⟨hG.1,λp hp=>by simp at hp,by simp⟩,⟨⟨[],λb=>rfl,rfl,hG.2⟩⟩,rfl,λx hx=>(by cases hx),λt ht=>rfl,Asw hF λj v hj=>by rw[Nat.zero_add,<-Sg,hj];rfl⟩
  have fin:∀(c:Cf Y)(f:Fr)(g':Gst)(AH' A':Own),g'.w=w->RG g [] c f g' AH' A'->rtP fn.results.toList rs F c->(∀arr,Is fn.ntmps arr f->(results fn arr).run Y.P w=.ok (Qe (vlT rs F)) w)/\rgT rs F:=λc f g' AH' A' hw hr' hx=>by
   obtain⟨as',us,n1,n2,n3⟩:=Wm (N:=fn.ntmps) hr' hx;split at n1
   .rename_i x hx';subst n1;obtain⟨h1,h2⟩:=(Ac5 pr).1 (Alx hx' n2);rw[hw]at n3;exact⟨λarr ha=>by rw[<-h1];exact Kh (n3 arr ha),h2⟩
   .exact n1.elim
  refine Ws (E:={N:=fn.ntmps,fty:=λ_=>none,sigs:=λ_=>none,pf:=pf,X:=λ_ _ _=>False,lp:=[],jn:=[],pr:=[],im:=[]}) code (k:=[]) ⟨λc f g' AH' A' hw hr hx=>?_,λid q hq=>by simp [lkE]at hq,λc f g' AH' A' k' hw hr hx=>?_⟩ rfl hrg h
  .obtain⟨h1,h2⟩:=fin c f g' AH' A' hw hr hx;exact Acz ⟨_,h1,rfl,rfl,h2⟩
  .obtain⟨h1,h2⟩:=fin c f g' AH' A' hw hr hx;exact Ui ⟨_,h1,rfl,rfl,h2⟩
 .exact h.elim
end
end
end Go.Y
section
namespace Go.Y
open Go Go.RowKit Go.X
def dup(p:Prop):Prop:=p/\p
theorem Akk{p:Prop}(h:p):dup p:=⟨h,h⟩
section
variable {P:Program} {t e:TypeId} {w:World}
theorem Ajq(he:P.underlying e=some (.int .i64))(x y:Int):(part e #[.int .i64 x,.int .i64 y] (0*1)).run P w=.ok (.int .i64 x) w/\(part e #[.int .i64 x,.int .i64 y] (1*1)).run P w=.ok (.int .i64 y) w:=by constructor<;>simp [part,isAgg,run_underlying he]
theorem Ad9{a b c d:Int}(ht:P.underlying t=some (.array 2 e))(he:P.underlying e=some (.int .i64))(hs:(sizeOf e).run P w=.ok 1 w):(Op.equal t (.agg ⟨[.int .i64 a,.int .i64 b]⟩) (.agg ⟨[.int .i64 c,.int .i64 d]⟩)).run P w=.ok (a==c&&b==d) w:=by
 have hp:=@Ajq P e w he;have h1:∀n(x y:Int),(Op.equalIn (n+1) e (.int .i64 x) (.int .i64 y)).run P w=.ok (x == y) w:=λn x y=>by simp [Op.equalIn,run_underlying he]
 simp only[Op.equal,Op.maxDepth];unfold Op.equalIn;simp only[Sem.run_bind,run_underlying ht,Result.andThen_ok,hs];simp [Std.Legacy.Range.forIn_eq_forIn_range',List.range',hs,hp,h1];by_cases h2:a=c<;>by_cases h3:b=d<;>simp [h2,h3]
theorem Ann{a b:Int}{em:Bool}(ht:P.underlying t=some (.array 2 e))(he:P.underlying e=some (.int .i64))(hs:(sizeOf e).run P w=.ok 1 w):(Instr.checkKey em 10000 t (.agg ⟨[.int .i64 a,.int .i64 b]⟩)).run P w=.ok () w:=by
 have hp:=@Ajq P e w he;have h1:∀n(x:Int),(Instr.checkKey em (n+1) e (.int .i64 x)).run P w=.ok () w:=λn x=>by simp [Instr.checkKey,run_underlying he]
 unfold Instr.checkKey;simp only[Sem.run_bind,run_underlying ht,Result.andThen_ok,hs];simp [Std.Legacy.Range.forIn_eq_forIn_range',List.range',hs,hp,h1]
theorem O4.two{κ:Type}[r:Rep κ][DecidableEq κ]{p q:κ->Int}(hr:∀I w v k,rep I w v k->v=.agg ⟨[.int .i64 (p k),.int .i64 (q k)]⟩)(hi:∀k l,p k=p l->q k=q l->k=l)(ht:P.underlying t=some (.array 2 e))(he:P.underlying e=some (.int .i64))(hs:∀w,(sizeOf e).run P w=.ok 1 w):O4 P t κ where
 find I w v k es ks hv hl hk:=by
  obtain rfl:=hr _ _ _ _ hv;have ask:∀(es:List MapEntry)(ks:List κ)(n:Nat),es.length=ks.length->(∀j(h:j<es.length)(h':j<ks.length),es[j].key=.agg ⟨[.int .i64 (p ks[j]),.int .i64 (q ks[j])]⟩)->
    (Instr.findAsking t (.agg ⟨[.int .i64 (p k),.int .i64 (q k)]⟩) es n).run P w=.ok ((ks.findIdx? (·==k)).bind λi=>(es[i]?).map λe=>(n+i,e.val)) w:=by
   intro es
   induction es with
   |nil=>intro ks n h _;cases ks with
    |nil=>rfl
    |cons=>simp at h
   |cons e0 es ih=>
    intro ks n h hk;cases ks with
    |nil=>simp at h
    |cons k0 ks=>
     have h0:=hk 0 (by simp) (by simp);simp only[List.getElem_cons_zero]at h0;have hrest:=ih ks (n+1) (by simpa using h) λj h1 h2=>by have:=hk (j+1) (by simp;omega) (by simp;omega);simpa using this
     unfold Instr.findAsking;simp only[Sem.run_bind,h0,Ad9 ht he (hs w),Result.andThen_ok];by_cases hkk:k0=k
     .subst hkk;simp [List.findIdx?_cons]
     .have:(p k == p k0&&q k == q k0)=false:=by rw[Bool.eq_false_iff];intro h2;simp only[Bool.and_eq_true,beq_iff_eq]at h2;exact hkk (hi _ _ h2.1.symm h2.2.symm)
      simp only[this,Bool.false_eq_true,if_false,hrest];have hb:(k0 == k)=false:=by simpa using hkk
      rw[List.findIdx?_cons,hb];simp only[Bool.false_eq_true,if_false];cases List.findIdx? (λx=>x == k) ks with
      |none=>rfl
      |some i=>simp [Nat.add_assoc,Nat.add_comm 1 i]
  have hes:∀j(h:j<es.length)(h':j<ks.length),es[j].key=.agg ⟨[.int .i64 (p ks[j]),.int .i64 (q ks[j])]⟩:=λj h h'=>hr _ _ _ _ (hk j h h');simp only[Instr.findKey,Sem.run_bind,run_underlying ht,Result.andThen_ok];cases es with
  |nil=>cases ks with
   |nil=>simp [Instr.findNow]
   |cons=>simp at hl
  |cons e0 es=>
   have:Instr.findNow (.array 2 e) (.agg ⟨[.int .i64 (p k),.int .i64 (q k)]⟩) (e0::es) 0=none:=by simp [Instr.findNow,Instr.sameNow]
   rw[this];have:=ask (e0::es) ks 0 hl hes;simp only[Nat.zero_add]at this;exact this
 check I w v k em hv:=by obtain rfl:=hr _ _ _ _ hv;exact Ann ht he (hs w)
 same I w v u k hv hu:=by obtain rfl:=hr _ _ _ _ hv;obtain rfl:=hr _ _ _ _ hu;simp [Instr.sameBits]
def arB(P:Program)(t:TypeId):Bool:=match P.underlying t with
 |some (.array 2 e)=>match P.underlying e,P.info? e with
  |some (.int .i64),some i=>Nat.beq i.size 1
  |_,_=>false
 |_=>false
theorem Azr(h:arB P t=true):∃e,P.underlying t=some (.array 2 e)/\P.underlying e=some (.int .i64)/\∀w,(sizeOf e).run P w=.ok 1 w:=by
 unfold arB at h;split at h
 .rename_i e ht;split at h
  .rename_i i he hi;have hs:=Nat.eq_of_beq_eq_true h;refine⟨e,ht,he,λw=>?_⟩;rw[run_sizeOf w hi];simp [Program.cellsOf,hi,hs]
  .cases h
 .cases h
theorem Ass{S:US}{dq:(n:Nat)->DecidableEq (S.D n)}{n:Nat}{p q:S.D n->Int}(hf:∀x,S.flat n x=[⟨.int .i64,p x⟩,⟨.int .i64,q x⟩])(hi:∀x y,p x=p y->q x=q y->x=y)(h:arB P t=true):@O4 P t (den S.D (.u n)) (RT S (.u n)) (G5 S dq (.u n)):=by
 obtain⟨e,h1,h2,h3⟩:=Azr h;refine @O4.two P t e _ (RT S (.u n)) (G5 S dq (.u n)) p q (λI w v k hv=>?_) hi h1 h2 h3;obtain⟨cs,rfl,hF⟩:=Lc.1 hv;rw[hf]at hF;cases hF with
 |cons a1 a2=>cases a2 with
  |cons b1 b2=>
   cases b2;obtain⟨rfl,_⟩:=Bq.1 a1;obtain⟨rfl,_⟩:=Bq.1 b1;rfl
end
end Go.Y
namespace Go.Y
open Go Go.RowKit Go.X
section
variable {P:Program} {t e:TypeId} {w:World}
theorem Aud(he:P.underlying e=some (.int .i64))(x y z:Int):(part e #[.int .i64 x,.int .i64 y,.int .i64 z] (0*1)).run P w=.ok (.int .i64 x) w/\(part e #[.int .i64 x,.int .i64 y,.int .i64 z] (1*1)).run P w=.ok (.int .i64 y) w/\(part e #[.int .i64 x,.int .i64 y,.int .i64 z] (2*1)).run P w=.ok (.int .i64 z) w:=by refine⟨?_,?_,?_⟩<;>simp [part,isAgg,run_underlying he]
variable {a b a' b':Int}
theorem Anm{c c':Int}(d:Nat)(ht:P.underlying t=some (.array 3 e))(he:P.underlying e=some (.int .i64))(hs:(sizeOf e).run P w=.ok 1 w):(Op.equalIn (d+2) t (.agg ⟨[.int .i64 a,.int .i64 b,.int .i64 c]⟩) (.agg ⟨[.int .i64 a',.int .i64 b',.int .i64 c']⟩)).run P w=.ok (a==a'&&(b==b'&&c==c')) w:=by
 have hp:=@Aud P e w he;have h1:∀n(x y:Int),(Op.equalIn (n+1) e (.int .i64 x) (.int .i64 y)).run P w=.ok (x == y) w:=λn x y=>by simp [Op.equalIn,run_underlying he]
 unfold Op.equalIn;simp only[Sem.run_bind,run_underlying ht,Result.andThen_ok,hs];simp [Std.Legacy.Range.forIn_eq_forIn_range',List.range',hs,hp,h1];by_cases h2:a=a'<;>by_cases h3:b=b'<;>by_cases h4:c=c'<;>simp [h2,h3,h4]
def ksB(P:Program)(t:TypeId):Bool:=!(P.eqGuardType P.depth t)&&!(P.stoodInHeld t)&&(match P.underlying t with
 |some (.struct ⟨[f,g]⟩)=>Nat.beq f.offset 0&&Nat.beq g.offset 1&&!(f.name== "_")&&!(g.name== "_")&&Ka P f.type (Ay6 .i64)&&(match P.info? g.type with
  |some i=>Nat.beq i.size 3
  |none=>false)&&(match P.underlying g.type with
  |some (.array 3 e)=>Ka P e (Ay6 .i64)&&(match P.info? e with
   |some i=>Nat.beq i.size 1
   |none=>false)
  |_=>false)
 |_=>false)
theorem Ajp{n:Nat}(h:(match P.info? e with|some i=>Nat.beq i.size n|none=>false)=true):(sizeOf e).run P w=.ok n w:=by
 split at h
 .rename_i i hi;rw[run_sizeOf w hi];simp [Program.cellsOf,hi,Nat.eq_of_beq_eq_true h]
 .cases h
theorem Ax9(h:ksB P t=true){o c o' c':Int}:P.eqGuardType P.depth t=false/\(Op.equal t (.agg ⟨[.int .i64 o,.int .i64 a,.int .i64 b,.int .i64 c]⟩) (.agg ⟨[.int .i64 o',.int .i64 a',.int .i64 b',.int .i64 c']⟩)).run P w=.ok (o==o'&&(a==a'&&(b==b'&&c==c'))) w:=by
 unfold ksB at h;simp only[Bool.and_eq_true,Bool.not_eq_true']at h;obtain⟨⟨h1,h2⟩,h⟩:=h;refine⟨h1,?_⟩;split at h
 .rename_i f g ht;simp only[Bool.and_eq_true,Nat.beq_eq,Bool.not_eq_true',beq_eq_false_iff_ne]at h;obtain⟨⟨⟨⟨⟨⟨hf0,hg0⟩,hfn⟩,hgn⟩,hft⟩,hgs⟩,hga⟩:=h;split at hga
  .rename_i e hge;simp only[Bool.and_eq_true]at hga;have he:=Afw hga.1;have hs1:(sizeOf e).run P w=.ok 1 w:=Ajp hga.2;have hs3:(sizeOf g.type).run P w=.ok 3 w:=Ajp hgs;have hfu:=Afw hft;have p1:∀o a b c:Int,(part f.type #[.int .i64 o,.int .i64 a,.int .i64 b,.int .i64 c] 0).run P w=.ok (.int .i64 o) w:=λo a b c=>by simp [part,isAgg,run_underlying hfu]
   have p2:∀o a b c:Int,(part g.type #[.int .i64 o,.int .i64 a,.int .i64 b,.int .i64 c] 1).run P w=.ok (.agg ⟨[.int .i64 a,.int .i64 b,.int .i64 c]⟩) w:=λo a b c=>by simp [part,isAgg,run_underlying hge,hs3]
   have q1:∀n(x y:Int),(Op.equalIn (n+1) f.type (.int .i64 x) (.int .i64 y)).run P w=.ok (x == y) w:=λn x y=>by simp [Op.equalIn,run_underlying hfu]
   simp only[Op.equal,Op.maxDepth];unfold Op.equalIn;simp only[Sem.run_bind,run_underlying ht,Result.andThen_ok];simp [run_program,h2,hf0,hg0,hfn,hgn,p1,p2,q1 9998,Anm 9997 hge he hs1];by_cases k1:o=o'<;>by_cases k2:a=a'<;>by_cases k3:b=b'<;>by_cases k4:c=c'<;>simp [k1,k2,k3,k4]
  .cases hga
 .cases h
theorem Amv(h:(arB P t&&!(P.eqGuardType P.depth t))=true):P.eqGuardType P.depth t=false/\(Op.equal t (.agg ⟨[.int .i64 a,.int .i64 b]⟩) (.agg ⟨[.int .i64 a',.int .i64 b']⟩)).run P w=.ok (a == a'&&b == b') w:=by simp only[Bool.and_eq_true,Bool.not_eq_true']at h;obtain⟨e,h1,h2,h3⟩:=Azr h.1;exact⟨h.2,Ad9 h1 h2 (h3 w)⟩
end
end Go.Y
namespace Go.Y
open Go Go.RowKit Go.X
theorem Azn(a b:ByteArray):(a==b)=decide (a=b):=by
 cases a with
 |mk a=>cases b with
  |mk b=>
   have:(ByteArray.mk a == ByteArray.mk b)=(a == b):=rfl;rw[this];by_cases h:a=b
   .subst h;simp
   .rw[beq_eq_false_iff_ne.2 h];exact(decide_eq_false λe=>h (by injection e)).symm
theorem Aeh{k:ByteArray}:∀(es:List MapEntry)(ks:List ByteArray)(n:Nat),es.length=ks.length->(∀j(h:j<es.length)(h':j<ks.length),es[j].key=.string ks[j])->Instr.findNow .string (.string k) es n=some ((ks.findIdx? λx=>decide (x=k)).bind λi=>(es[i]?).map λe=>(n+i,e.val))
 | [],[],n,_,_=>rfl
 | [],_::_,_,h,_=>by simp at h
 |_::_,[],_,h,_=>by simp at h
 |e::es,x::ks,n,h,hk=>by
  have h0:e.key=.string x:=hk 0 (by simp) (by simp);have ih:=Aeh (k:=k) es ks (n+1) (by simpa using h) (λj h1 h2=>hk (j+1) (by simp;omega) (by simp;omega));simp only[Instr.findNow,h0,Instr.sameNow,Azn];by_cases hx:k=x
  .subst hx;simp [List.findIdx?_cons]
  .have hx':¬x=k:=λh=>hx h.symm;rw[decide_eq_false hx];simp only[ih,List.findIdx?_cons,decide_eq_false hx',Bool.false_eq_true,if_false];cases ks.findIdx? (λx=>decide (x=k)) with
   |none=>simp
   |some i=>simp [Nat.add_comm,Nat.add_left_comm]
theorem O4.A9d{P:Program}{t:TypeId}{r:Rep ByteArray}{dq:DecidableEq ByteArray}(hr:∀I w v k,@Rep.rep ByteArray r I w v k->v=.string k)(ht:P.underlying t=some .string):@O4 P t ByteArray r dq:=
 @O4.mk P t ByteArray r dq (λI w v k es ks hv hl hk=>by obtain rfl:=hr _ _ _ _ hv;have:=Aeh (k:=k) es ks 0 hl (λj h h'=>hr _ _ _ _ (hk j h h'));simp only[Nat.zero_add]at this;simp only[Instr.findKey,Sem.run_bind,run_underlying ht,Result.andThen_ok,this,Sem.run_pure];congr 3;funext x;exact(Bool.eq_iff_iff.2 (by simp)))
 (λI w v k e hv=>by
  obtain rfl:=hr _ _ _ _ hv;have:∀n,(Instr.checkKey e (n+1) t (.string k)).run P w=.ok () w:=λn=>by simp [Instr.checkKey,run_underlying ht]
  exact this 9999)
 (λI w v u k hv hu=>by obtain rfl:=hr _ _ _ _ hv;obtain rfl:=hr _ _ _ _ hu;simp [Instr.sameBits,Azn])
theorem O4.A9c{S:US}{P:Program}{dq:(n:Nat)->DecidableEq (S.D n)}{t:TypeId}(ht:P.underlying t=some .string):@O4 P t (den S.D .str) (RT S .str) (G5 S dq .str):=O4.A9d (λI w v k h=>(Ta.1 h).1) ht
def kmS(P:Program)(t:TypeId)(k:Ty):Bool:=match k,P.underlying t with
 | .str,some .string=>true
 |_,_=>false
theorem A5l{S:US}{P:Program}{dq:(n:Nat)->DecidableEq (S.D n)}{t:TypeId}{k:Ty}(h:kmS P t k=true):@O4 P t (den S.D k) (RT S k) (G5 S dq k):=by
 unfold kmS at h;split at h
 .rename_i hu;exact O4.A9c hu
 .cases h
end Go.Y
end
