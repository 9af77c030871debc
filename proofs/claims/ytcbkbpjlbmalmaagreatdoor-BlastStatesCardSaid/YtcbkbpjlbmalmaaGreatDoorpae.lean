/-
  The Y layer, part r: a function: its entry, its results; from 'aex' to 'Wp'. (Merged by program out of 5 texts.)
-/
import Derived.Test.YtcbkbpjlbmalmaaGreatDoorpad
namespace Go.Y
open Go Go.RowKit Go.X
section
inductive Sh1 where
 |dat (t:Ty)
 |own (t:Ty)
inductive Sh where
 |one (s:Sh1)
 |nat
 |map (k e:Ty)
 |blk (l:List Sh1)
 |arr (t:Ty)
structure LA where
 vars:List (Nat×Sh)
 BA:List Nat
 heap:Bool
structure Env(Y:Sys) where
 N:Nat
 NY:TypeId->Option (List Ty×List Ty)
 sigs:FuncId->Option Bs
 pf:(q:FuncId)->Option (PF Y q)
 X:TF Y
 lp:List (Nat×LA)
 jn:List (Nat×LA)
 pr:List (Nat×Nat)
 im:List Nat
 wr:List Nat:=[]
 oc:List Nat:=[]
 tk:List Nat:=[]
 hd:List (Nat×List Nat):=[]
 tw:List Nat:=[]
 il:(q:FuncId)->Option (TG Y q):=λ_=>none
section
variable {Y:Sys}
def Are(c:Cf Y):AV Y->Cf Y
 | .own i=>match HG c.sg i with
  |some (.sl _ _)=>c.frz i
  |_=>c
 | .sub i _ _=>c.frz i
 |_=>c
def Ag0(c:Cf Y):List (AV Y)->Cf Y
 | []=>c
 |a::l=>Ag0 (Are c a) l
def OF(c:Cf Y)(x:Operand):Cf Y:=match Ey c x with
 |some a=>Are c a
 |none=>c
def Yo(c:Cf Y):List Operand->Cf Y
 | []=>c
 |x::l=>Yo (OF c x) l
variable {g0 g:B3} {T AH A:Bh} {c:Cf Y} {f:Fr}
theorem Ag1(h:RG g0 T c f g AH A)(a:AV Y):∃g' A',g'.w=g.w/\Le g g'/\RG g0 T (Are c a) f g' AH A':=by
 unfold Are;split
 .split
  .obtain⟨g',A',h1,_,h2,h3⟩:=h.frz _;exact⟨g',A',h1,h2,h3⟩
  .exact⟨g,A,rfl,Le.refl _,h⟩
 .obtain⟨g',A',h1,_,h2,h3⟩:=h.frz _;exact⟨g',A',h1,h2,h3⟩
 .exact⟨g,A,rfl,Le.refl _,h⟩
theorem VQ{g0:B3}{T AH:Bh}{f:Fr}:∀(l:List (AV Y)){g:B3}{A:Bh}{c:Cf Y},RG g0 T c f g AH A->∃g' A',g'.w=g.w/\Le g g'/\RG g0 T (Ag0 c l) f g' AH A'
 | [],g,A,c,h=>⟨g,A,rfl,Le.refl _,h⟩
 |a::l,g,A,c,h=>by obtain⟨g1,A1,h1,h2,h3⟩:=Ag1 h a;obtain⟨g2,A2,h4,h5,h6⟩:=VQ l h3;exact⟨g2,A2,h4.trans h1,h2.trans h5,h6⟩
theorem J6(h:RG g0 T c f g AH A)(x:Operand):∃g' A',g'.w=g.w/\Le g g'/\RG g0 T (OF c x) f g' AH A':=by
 unfold OF;split
 .exact Ag1 h _
 .exact⟨g,A,rfl,Le.refl _,h⟩
theorem OE{g0:B3}{T AH:Bh}{f:Fr}:∀(l:List Operand){g:B3}{A:Bh}{c:Cf Y},RG g0 T c f g AH A->∃g' A',g'.w=g.w/\Le g g'/\RG g0 T (Yo c l) f g' AH A'
 | [],g,A,c,h=>⟨g,A,rfl,Le.refl _,h⟩
 |a::l,g,A,c,h=>by obtain⟨g1,A1,h1,h2,h3⟩:=J6 h a;obtain⟨g2,A2,h4,h5,h6⟩:=OE l h3;exact⟨g2,A2,h4.trans h1,h2.trans h5,h6⟩
def Arf(c:Cf Y):List AK->List Operand->Cf Y
 | .dat _::ks,x::l=>Arf (OF c x) ks l
 |_::ks,_::l=>Arf c ks l
 |_,_=>c
theorem Z7{g0:B3}{T AH:Bh}{f:Fr}:∀(ks:List AK)(l:List Operand){g:B3}{A:Bh}{c:Cf Y},RG g0 T c f g AH A->∃g' A',g'.w=g.w/\Le g g'/\RG g0 T (Arf c ks l) f g' AH A'
 | .dat _::ks,x::l,g,A,c,h=>by obtain⟨g1,A1,h1,h2,h3⟩:=J6 h x;obtain⟨g2,A2,h4,h5,h6⟩:=Z7 ks l h3;exact⟨g2,A2,h4.trans h1,h2.trans h5,h6⟩
 |.own _::ks,_::l,g,A,c,h|.map _ _::ks,_::l,g,A,c,h|.mob::ks,_::l,g,A,c,h|.del _::ks,_::l,g,A,c,h|.fbx _ _::ks,_::l,g,A,c,h|.fn _ _::ks,_::l,g,A,c,h=>Z7 ks l h
 | [],_,g,A,c,h=>⟨g,A,rfl,Le.refl _,by cases ‹List Operand›<;>exact h⟩
 | .dat _::_,[],g,A,c,h | .own _::_,[],g,A,c,h | .map _ _::_,[],g,A,c,h | .mob::_,[],g,A,c,h | .del _::_,[],g,A,c,h | .fn _ _::_,[],g,A,c,h | .fbx _ _::_,[],g,A,c,h=>⟨g,A,rfl,Le.refl _,h⟩
def Anm(sigs:FuncId->Option Bs)(c:Cf Y)(cl:Operand)(l:List Operand):Cf Y:=match cl with
 | .func q=>match sigs q with
  |some σ=>Arf c σ.args l
  |none=>c
 |_=>Yo c l
theorem Ari{sigs:FuncId->Option Bs}(h:RG g0 T c f g AH A)(cl:Operand)(l:List Operand):∃g' A',g'.w=g.w/\Le g g'/\RG g0 T (Anm sigs c cl l) f g' AH A':=by
 unfold Anm;split
 .split
  .exact Z7 _ _ h
  .exact⟨g,A,rfl,Le.refl _,h⟩
 .exact OE _ h
def Ag6(c:Cf Y)(t:TypeId)(ps:Array (Nat×Operand)):Cf Y:=match Y.ty t with
 |some _=>Yo c (ps.toList.map (·.2))
 |none=>c
theorem Ab9(h:RG g0 T c f g AH A)(t:TypeId)(ps:Array (Nat×Operand)):∃g' A',g'.w=g.w/\Le g g'/\RG g0 T (Ag6 c t ps) f g' AH A':=by
 unfold Ag6;split
 .exact OE _ h
 .exact⟨g,A,rfl,Le.refl _,h⟩
def Uv(c:Cf Y)(t:TypeId)(a:AV Y):Cf Y:=match Y.ty t with
 |some (.u _)=>match a with
  | .adr i _=>match HG c.sg i with
   |some (.blk cs)=>Ag0 c cs
   |_=>c
  |_=>c
 |_=>c
theorem UE(h:RG g0 T c f g AH A)(t:TypeId)(a:AV Y):∃g' A',g'.w=g.w/\Le g g'/\RG g0 T (Uv c t a) f g' AH A':=by
 unfold Uv;split
 .split
  .split
   .exact VQ _ h
   .exact⟨g,A,rfl,Le.refl _,h⟩
  .exact⟨g,A,rfl,Le.refl _,h⟩
 .exact⟨g,A,rfl,Le.refl _,h⟩
def hpA(w:Nat):AV Y->AV Y
 | .hp i b o=>match Nat.beq i w with
  |true=>.adr i o
  |false=>.hp i b o
 |a=>a
variable {a:AV Y}
theorem Anc{w:Nat}{v:Value}(h:AR g a v):AR g (hpA w a) v:=by
 unfold hpA;split
 .split
  .exact⟨h.1,_,h.2.1,h.2.2⟩
  .exact h
 .exact h
def hpB:AV Y->AV Y
 | .hp w _ o=>.adr w o
 |a=>a
theorem Anb{v:Value}(h:AR g a v):AR g (hpB a) v:=by
 unfold hpB;split
 .exact⟨h.1,_,h.2.1,h.2.2⟩
 .exact h
def hpF(w:Nat):List (Nat×AV Y)->List (Nat×AV Y)
 | []=>[]
 |p::l=>(p.1,hpA w p.2)::hpF w l
theorem Aer{w i:Nat}{b:AV Y}:∀{l:List (Nat×AV Y)},Hu (hpF w l) i=some b->∃a,Hu l i=some a/\b=hpA w a
 | [],h=>by simp [hpF,Hu]at h
 |p::l,h=>by
  simp only[hpF,Hu]at h ⊢;by_cases e:p.1=i
  .rw[if_pos e]at h ⊢;cases h;exact⟨_,rfl,rfl⟩
  .rw[if_neg e]at h ⊢;exact Aer h
def Akz(c:Cf Y):Cf Y:=match c.op with
 |some o=>match HG c.sg o.i with
  |some (.blk cs)=>Ag0 {c with fr:=hpF o.i c.fr,H:=Cs c.H o.b,op:=none} cs
  |_=>c
 |none=>c
theorem Apu(h:RG g0 T c f g AH A):∃g' A',g'.w=g.w/\Le g g'/\RG g0 T (Akz c) f g' AH A':=by
 unfold Akz;split
 .rename_i o ho;split
  .rename_i cs hs;have hH:=h.hr;rw[ho]at hH;obtain⟨hX,h2,h3,h4⟩:=hH;obtain⟨A1,A2,hp,_,⟨b',arr,e,rfl,hb',_⟩,_⟩:=h.sg.take hs;rw[h4]at hb';have hb'':b'=o.b:=by injection hb' with hb';injection hb' with hb';injection hb' with hb' _;exact hb'.symm
   subst hb'';have hmem:(o.b,Obj.cells arr e (0,0))∈A:=hp.symm.mem_iff.1 (by simp);have hne:∀p∈AH,p.1≠o.b:=λp hp' e'=>by have hn:=h.st.nodup;rw[List.map_append,List.nodup_append]at hn;exact hn.2.2 p.1 (List.mem_map_of_mem hp') o.b (List.mem_map.2 ⟨_,List.mem_append_left _ hmem,rfl⟩) e'
   have hr:RG g0 T {c with fr:=hpF o.i c.fr,H:=Cs c.H o.b,op:=none} f g AH A:=⟨h.n,h.le,h.st,Sg hX hne,h.sg,h.hs,h.pt,λi b hi=>by obtain⟨a,h5,rfl⟩:=Aer hi;exact Anc (h.fr i a h5)⟩
   exact VQ _ hr
  .exact⟨g,A,rfl,Le.refl _,h⟩
 .exact⟨g,A,rfl,Le.refl _,h⟩
def tkW(c:Cf Y)(t:TypeId)(a:AV Y)(k:AV Y->Cf Y->Prop):Prop:=match c.op with
 |some o=>match HG c.sg o.i with
  |some (.blk cs)=>match hpB a with
   | .adr i p=>match Nat.beq i o.i with
    |true=>Tj t cs p λb=>k b {c with fr:=hpF o.i c.fr,H:=Cs c.H o.b,op:=none,sg:=Gb c.sg o.i}
    |false=>False
   |_=>False
  |_=>False
 |none=>False
variable {x:Operand} {k:AV Y->Cf Y->Prop}
theorem At5(h:RG g0 T c f g AH A){t ty:TypeId}(hx:tkW c t a k)(ha:AR g a (ev f x)):∃v b c' A',k b c'/\AR g b v/\KC Y.P f (.load t x) ty v g.w/\RG g0 T c' f g AH A':=by
 unfold tkW at hx;split at hx
 .rename_i o ho;split at hx
  .rename_i cs hs;split at hx
   .rename_i i p hp;split at hx
    .rename_i hio;have hio:i=o.i:=Nat.eq_of_beq_eq_true hio;subst hio;have ha2:=Anb ha;rw[hp]at ha2;obtain⟨_,b1,h4,h5⟩:=ha2;have hH:=h.hr;rw[ho]at hH;obtain⟨hX,h2,h3,hm⟩:=hH;obtain⟨A1,A2,hpm,_,hsr,hsg⟩:=h.sg.take hs;obtain⟨v,b,k1,k2,k3⟩:=YX (ty:=ty) hx hsr h4 h5;obtain⟨b',arr,e,rfl,hb',_⟩:=hsr;rw[hm]at hb';have hb'':b'=o.b:=by injection hb' with hb';injection hb' with hb';injection hb' with hb' _;exact hb'.symm
     subst hb'';have hmem:(o.b,Obj.cells arr e (0,0))∈A:=hpm.symm.mem_iff.1 (by simp);have hne:∀p∈AH,p.1≠o.b:=λp hp' e'=>by have hn:=h.st.nodup;rw[List.map_append,List.nodup_append]at hn;exact hn.2.2 p.1 (List.mem_map_of_mem hp') o.b (List.mem_map.2 ⟨_,List.mem_append_left _ hmem,rfl⟩) e'
     have st1:=(h.st.perm (FH hpm AH)).drop;refine⟨v,b,_,A2,k1,k2,k3 g.w λp hp'=>?_,⟨h.n,h.le,st1,Sg hX hne,hsg,h.hs,h.pt,λi b hi=>by obtain⟨a,h5,rfl⟩:=Aer hi;exact Anc (h.fr i a h5)⟩⟩
     exact(h.st.own p (List.mem_append_right _ (List.mem_append_left _ (hpm.symm.mem_iff.1 (List.mem_append_left _ hp'))))).1
    .exact hx.elim
   .exact hx.elim
  .exact hx.elim
 .exact hx.elim
def inD:Option Tmp->List Nat->Bool
 |some d,l=>Lt d l
 |none,_=>false
def Axh(c:Cf Y)(e:TypeId)(a:AV Y)(k:AV Y->Cf Y->Prop):Prop:=match Y.ty e with
 |some T=>match U0 T a with
  |some d=>k (.del T d 0) c
  |none=>False
 |none=>False
theorem Ar4{T0:Bh}(h:RG g0 T0 c f g AH A){e:TypeId}(hk:Axh c e a k)(ha:AR g a (ev f x)):Pb g0 T0 f g.w (.box e x) k g:=by
 intro N ops R K os dst ty pos af next;unfold Axh at hk;split at hk
 .rename_i T hT;split at hk
  .rename_i d hd;letI:AT (den Y.D T):=RT Y.toUS T
   refine Avg (α:=den Y.D T) h.st (Dk hd ha) rfl λp I' w' e1 s1 hp hpt hr=>?_;have hle:Le g {g with I:=I',w:=w'}:=⟨e1,Nat.le_refl _,λ_ _=>rfl,rfl⟩
   obtain⟨b,off,sp⟩:=p;have hsp:sp=none:=hpt.1;subst hsp;exact next _ (.del T d 0) c {g with I:=I',w:=w'} AH A hle ⟨h.n,h.le.trans e1,s1,h.hr.mono hle,h.sg.mono hle,h.hs.mono hle,hle.pt h.pt,λi a hi=>(h.fr i a hi).mono hle⟩ ⟨b,off,_,hr,hpt,hp,rfl⟩ hk
  .exact hk.elim
 .exact hk.elim
def Axi(sigs:FuncId->Option Bs)(NY:TypeId->Option (List Ty×List Ty))(c:Cf Y)(e:TypeId)(a:AV Y)(k:AV Y->Cf Y->Prop):Prop:=match NY e with
 |some (as,rs)=>match asF sigs Tw c.sg as rs a with
  |some F=>k (.fbx as rs F) c
  |none=>False
 |none=>False
theorem Ar5{sigs:FuncId->Option Bs}{NY:TypeId->Option (List Ty×List Ty)}{T0:Bh}(h:RG g0 T0 c f g AH A){e:TypeId}(hk:Axi sigs NY c e a k)(ha:AR g a (ev f x)):Pb g0 T0 f g.w (.box e x) k g:=by
 intro N ops R K os dst ty pos af next;unfold Axi at hk;split at hk
 .rename_i as rs hT;split at hk
  .rename_i F hF;have hv:=Ae7 hF h.sg ha;obtain⟨e1,s1⟩:=h.st.alloc (.cells (ev f x).cells e);obtain⟨e2,s2⟩:=s1.freeze;let g1:B3:={g with I:=λb=>g.I b∨∃p,p∈[(g.w.heap.size,Obj.cells (ev f x).cells e)]/\p.1=b,w:=g.w.alloc (.cells (ev f x).cells e)}
   have hle:Le g g1:=⟨e1.trans e2,Nat.le_refl _,λ_ _=>rfl,rfl⟩
   refine Ay (v:=.pointer (some ⟨g.w.heap.size,0,none⟩)) ?_ (next _ (.fbx as rs F) c g1 AH A hle ⟨h.n,h.le.trans (e1.trans e2),s2,h.hr.mono hle,h.sg.mono hle,h.hs.mono hle,hle.pt h.pt,λi a hi=>(h.fr i a hi).mono hle⟩ ⟨g.w.heap.size,0,ev f x,FvR.mono Y (e1.trans e2) hv,⟨rfl,λj hj=>?_⟩,.inr ⟨_,List.mem_singleton.2 rfl,rfl⟩,rfl⟩ hk)
   .simp [execOp,Instr.box,newVar,newRow];rfl
   .rw[Bp (heap_alloc_new g.w _)];simp
  .exact hk.elim
 .exact hk.elim
def lkD:List (Nat×Nat)->Option Tmp->Option Nat
 |_,none|[],_=>none
 |p::l,some d=>match Nat.beq p.1 d with
  |true=>some p.2
  |false=>lkD l (some d)
def Ary(c:Cf Y)(pr:Option Nat)(k:Cf Y->Prop):Prop:=match pr with
 |none=>k c
 |some _=>cls c k
theorem Ahl(h:RG g0 T c f g AH A){pr:Option Nat}{k:Cf Y->Prop}(hk:Ary c pr k):∃c' g' AH' A',k c'/\g'.w=g.w/\Le g g'/\RG g0 T c' f g' AH' A':=by
 unfold Ary at hk;split at hk
 .exact⟨c,g,AH,A,hk,rfl,Le.refl _,h⟩
 .obtain⟨c',g',AH',A',k1,k2,k3,k4,_⟩:=D0 h hk;exact⟨c',g',AH',A',k1,k2,k3,k4⟩
def A28:AV Y->Bool
 | .el _ _ _ _=>true
 |_=>false
def pfC(E:Env Y):Op->Option ((q:FuncId)×PF Y q×Array Operand)
 | .call ⟨.value (.func q),as,_⟩=>match E.pf q with
  |some p=>some ⟨q,p,as⟩
  |none=>none
 |_=>none
variable {E:Env Y}
theorem Aec{o:Op}{r:(q:FuncId)×PF Y q×Array Operand}(h:pfC E o=some r):∃at_,o=.call ⟨.value (.func r.1),r.2.2,at_⟩:=by
 unfold pfC at h;split at h
 .split at h
  .cases h;exact⟨_,rfl⟩
  .cases h
 .cases h
def pcX(c:Cf Y)(r:(q:FuncId)×PF Y q×Array Operand)(K:AV Y->Cf Y->Prop):Prop:=match evL c r.2.2.toList with
 |some l=>pfX r.2.1 c l K
 |none=>False
theorem Aed(h:RG g0 T c f g AH A){r:(q:FuncId)×PF Y q×Array Operand}{K:AV Y->Cf Y->Prop}(hx:pcX c r K):∃v a c' g',K a c'/\g'.w=g.w/\Le g g'/\RG g0 T c' f g' AH A/\AR g' a v/\∀w,Sx g w->Calls Y.P r.1 ⟨r.2.2.toList.map (ev f)⟩ w λe w'=>e=.returned v/\w'=w:=by
 unfold pcX at hx;split at hx
 .rename_i l hl;exact Aux h hx (OM h hl)
 .exact hx.elim
def stF(E:Env Y)(c:Cf Y)(t:TypeId)(x y:Operand):Option ((Cf Y->Prop)->Prop):=match E.NY t,x with
 |some (as,rs),.tmp p=>match Hu c.fr p,Ey c y with
  |some (.adr i 0),some b=>match HG c.sg i,asF E.sigs Tw c.sg as rs b with
   |some (.blk [_]),some F=>some λk=>Fu (Pg Y.P t false 1) (k (({c with sg:=Gb c.sg i}:Cf Y).set p (.fbx as rs F)))
   |_,_=>none
  |_,_=>none
 |_,_=>none
theorem Auc(h:RG g0 T c f g AH A){t:TypeId}{y:Operand}{z:(Cf Y->Prop)->Prop}{kk:AV Y->Cf Y->Prop}(hz:stF E c t x y=some z)(hk:z λc'=>kk (.val undef) c'):Pb g0 T f g.w (.store t x y) kk g:=by
 intro N ops R K os dst ty pos af next;unfold stF at hz;split at hz
 .rename_i as rs p hty;split at hz
  .rename_i i b hp hb;split at hz
   .rename_i a0 F hs hF;cases hz;obtain⟨ht,hk⟩:=AM hk;obtain⟨A1,A2,h1,hin,⟨b',arr,e,rfl,hb',hf⟩,hsg⟩:=h.sg.take hs;have hst:=h.st.perm (FH h1 AH);obtain⟨_,b1,hμ,hv⟩:=h.fr p _ hp;rw[hb']at hμ;cases hμ;have hvF:=Ae7 hF h.sg (h.ev hb);have hc1:(ev f y).cells=#[ev f y]:=by obtain⟨⟨q,first,cap,e⟩,_⟩:=hvF;rw[e];rfl
    have hone:(ev f y).oneCell'=true:=by obtain⟨⟨q,first,cap,e⟩,_⟩:=hvF;rw[e];rfl
    have hcs:arr.size=1:=by have:=hf.len;simp at this;omega
    obtain⟨w',row,k1,k2,k3,k4⟩:=storeCells (o:=0) ht hst (by rw[hc1];rfl) (by rw[hc1];simpa using hone) (by omega);obtain⟨e2,s2⟩:=k3.freeze;have hle:Le g {g with I:=λc=>g.I c∨∃p∈[(b',Obj.cells row e (0,0))],p.1=c,w:=w'}:=⟨k2.trans e2,Nat.le_refl _,λ_ _=>rfl,rfl⟩
    have hrow:row=#[ev f y]:=by
     apply Array.toList_inj.1;rw[k4,hc1];have:arr.toList.length=1:=by simpa using hcs
     simp [List.drop_eq_nil_of_le,this,hcs]
    refine MX (by simp [execOp,show ev f (.tmp p)=_ from hv,k1]) (next undef (.val undef) (({c with sg:=Gb c.sg i}:Cf Y).set p (.fbx as rs F)) {g with I:=λc=>g.I c∨∃p∈[(b',Obj.cells row e (0,0))],p.1=c,w:=w'} AH A2 hle ⟨h.n,h.le.trans hle.ext,s2,h.hr.mono hle,hsg.mono hle,h.hs.mono hle,hle.pt h.pt,λj a hj=>?_⟩ rfl hk);by_cases hjp:p=j
    .subst hjp;have:a=.fbx as rs F:=by have hj:(if p=p then some (AV.fbx as rs F) else Hu c.fr p)=some a:=hj;rw[if_pos rfl]at hj;exact(Option.some.inj hj).symm
     subst this;refine⟨b',0,ev f y,FvR.mono Y hle.ext hvF,⟨rfl,λj hj=>?_⟩,.inr ⟨_,List.mem_singleton.2 rfl,rfl⟩,hv⟩;have hb2:=(k3.own _ (List.mem_append_left _ (List.mem_singleton.2 rfl))).1;rw[hc1]at hj ⊢;have hj0:j=0:=by simpa using hj
     subst hj0;subst hrow;rw[Bp hb2]
    .have hj:(if p=j then some (AV.fbx as rs F) else Hu c.fr j)=some a:=hj;rw[if_neg hjp]at hj;exact(h.fr j a hj).mono hle
   .cases hz
  .cases hz
 .cases hz
def xop(E:Env Y)(o:Oper)(c:Cf Y)(k:Cf Y->Prop):Prop:=
 let K:AV Y->Cf Y->Prop:=λa c'=>c'.put E.N o.dst a k
 match o.op with
 | .load t x=>match Ey c x with
  |some (.del T d off)=>ldD t T d off λa=>K a c
  |some (.fbx as rs F)=>Fu (Pg Y.P t false 1) (K (.fn as rs F) c)
  |some a=>match inD o.dst E.tk with
   |true=>match inD o.dst E.tw with
    |true=>Aa6 c t a λa c=>tkW c t a K
    |false=>Aa6 c t a λa c=>rdX (Akz c) t (hpB a) λb=>K b (Akz c)
   |false=>Aa6 c t a λa c=>rdX (Uv c t a) t a λb=>K b (Uv c t a)
  |none=>False
 | .store t x y=>match stF E c t x y with
  |some z=>z λc'=>K (.val undef) c'
  |none=>match Ey c x with
   |some a=>match A28 a with
    |true=>match Ey (OF c y) y with
     |some b=>stX (OF c y) t a b λc'=>K (.val undef) c'
     |none=>False
    |false=>Aa6 c t a λa c=>match Ey c y with
     |some b=>stX c t a b λc'=>K (.val undef) c'
     |none=>False
   |none=>False
 | .box e x=>match inD o.dst E.im with
  |true=>match Ey (OF c x) x with
   |some a=>match E.NY e with
    |none=>Axh (OF c x) e a K
    |some _=>Axi E.sigs E.NY (OF c x) e a K
   |none=>False
  |false=>Ary c (lkD E.pr o.dst) λc=>match Ey c x with
   |some a=>Axk c (lkD E.pr o.dst) a K
   |none=>False
 | .alloc e=>Ary c (lkD E.pr o.dst) λc=>Axv c (lkD E.pr o.dst) e K
 | .buildSlice t n ps=>Axj (Yo c (ps.toList.map (·.2))) t n ps K
 | .makeSlice t x y=>mkX c t x y K
 | .makeFunc q fs cs=>mfX (Yo c cs.toList) q fs cs K
 | .slice t x lo hi mx=>slX c t x lo hi mx K
 | .makeMap t none=>match Y.ty t with
  |some .mref=>Azt c t K
  |_=>mkM c t K
 | .lookup t x y b=>match Am6 c x with
  |true=>luR c t x y b K
  |false=>luX c t x y b K
 | .mapUpdate t x y z=>match Am6 c x with
  |true=>upR (OF c z) t x y z K
  |false=>upM (OF c z) t x y z K
 | .insert t x y z=>match Am6 c x with
  |true=>upR (OF c z) t x y z K
  |false=>upM (OF c z) t x y z K
 | .call ⟨.builtin .delete,⟨[x,y]⟩,⟨t::ts⟩⟩=>match Am6 c x with
  |true=>dlR c t x y K
  |false=>dlM c t x y K
 | .call ⟨.builtin .len,⟨[x]⟩,⟨t::ts⟩⟩=>match Am6 c x,A27 c x with
  |true,_=>lnR c t x K
  |false,true=>lnM c t x K
  |false,false=>vop c (.call ⟨.builtin .len,⟨[x]⟩,⟨t::ts⟩⟩) K
 | .build t ps=>vop (Ag6 c t ps) (.build t ps) K
 | .makeInterface t x=>vop (OF c x) (.makeInterface t x) K
 | .call ⟨.builtin .copy,⟨[x,y]⟩,⟨[t,_]⟩⟩=>cpX c t x y K
 | .call ⟨.builtin .clear,⟨[x]⟩,⟨[t]⟩⟩=>Axc c t x K
 | .call ⟨.builtin .append,⟨[x,y]⟩,⟨[t,u]⟩⟩=>Fu (Nat.beq t u) (Axt c t x y K)
 | .call ⟨.value cl,as,at_⟩=>match pfC E (.call ⟨.value cl,as,at_⟩) with
  |some r=>pcX c r K
  |none=>match ilC E.il cl with
   |some r=>match c.op,inD o.dst E.oc with
    |some op,true=>ilO E.X c op r as K
    |_,_=>cls c λc=>ilX E.X c r as K
   |none=>match (Anm E.sigs c cl as.toList).op,inD o.dst E.oc,cl with
    |some op,true,.func q=>Aoh E.sigs E.X (Anm E.sigs c cl as.toList) op q as K
    |_,_,_=>cls (Anm E.sigs c cl as.toList) λc=>Aof E.sigs E.X c cl as K
 | .binOp bo t x y u=>match inD o.dst E.wr with
  |true=>wrX c bo x y K
  |false=>vop c (.binOp bo t x y u) K
 | .panic x=>cls c λc=>match Ey c x,c.op with
  |some (.ifc t T d),none=>E.X t ⟨T,d⟩ c.H
  |_,_=>False
 |op=>vop c op K
variable {o:Oper} {ops:Array Oper}
theorem Adr(h:RG g0 T c f g AH A){k:Cf Y->Prop}(hg:o.guard=none)(hx:xop E o c k){R:List PanicEntry->World->Prop}{K:Fr->World->Prop}{os:List Oper}(hR:GC g0 T E.X R)(next:∀c' f' g' AH' A',Le g g'->RG g0 T c' f' g' AH' A'->k c'->WL Y.P E.N ops R false K os f' g'.w):WL Y.P E.N ops R false K (o::os) f g.w:=by
 obtain⟨dst,op,ty,pos,af,gd⟩:=o;simp only at hg;subst hg;have fin:∀{g1:B3},Le g g1->∀v a c' g' AH' A',Le g1 g'->RG g0 T c' f g' AH' A'->AR g' a v->c'.put E.N dst a k->WL Y.P E.N ops R false K os (Go.X.put E.N f dst v) g'.w:=λ{g1}hle1 v a c' g' AH' A' hle hr ha hk=>by obtain⟨c2,g2,k1,k2,k3,k4,k5⟩:=hr.put ha hk;rw[<-k2];exact next c2 _ g2 _ _ ((hle1.trans hle).trans k4) k5 k1
 have eff:∀{c1:Cf Y}{g1:B3}{AH A1:Bh},g1.w=g.w->Le g g1->RG g0 T c1 f g1 AH A1->∀{op:Op},Pb g0 T f g1.w op (λa c'=>c'.put E.N dst a k) g1->WL Y.P E.N ops R false K (⟨dst,op,ty,pos,af,none⟩::os) f g.w:=λhw hle hr op he=>by rw[<-hw];exact he E.N ops R K os dst ty pos af (fin hle)
 have val:∀{c1:Cf Y}{g1:B3}{A1:Bh},g1.w=g.w->Le g g1->RG g0 T c1 f g1 AH A1->∀{op:Op},vop c1 op (λa c'=>c'.put E.N dst a k)->WL Y.P E.N ops R false K (⟨dst,op,ty,pos,af,none⟩::os) f g.w:=λhw hle hr op hv=>by obtain⟨v,a,c',g',h1,hw',hle',h2,h3,h4⟩:=Adv (ty:=ty) hr hv;rw[<-hw];refine Ay (h4 _ (Sx.refl _) dst pos af none) ?_;have:=fin hle v a c' _ AH _ hle' h2 h3 h1;rwa [hw']at this
 unfold xop at hx;simp only at hx;split at hx
 .split at hx
  .rename_i ha;obtain⟨b,off,u,h1,h2,h3,h4⟩:=h.ev ha;obtain⟨v,a,h5,h6,h7⟩:=Aeo (ty:=ty) (k:=λa=>c.put E.N dst a k) hx h1 h2 h3 h4;exact Ay (h7 _ (Sx.refl _) dst pos af none) (fin (Le.refl _) v a c g AH A (Le.refl _) h h6 h5)
  .rename_i as rs F ha;obtain⟨ht,hx⟩:=AM hx;obtain⟨v,h1,h2⟩:=Am0 (ty:=ty) ht (h.ev ha);exact Ay (h2 _ (Sx.refl _) dst pos af none) (fin (Le.refl _) v _ c g AH A (Le.refl _) h h1 hx)
  .rename_i a _ _ ha;split at hx
   .split at hx
    .obtain⟨a,c0,g0',AH0,A0,hx,hw0,hle0,hr0,ha0⟩:=Pm h hx (h.ev ha);obtain⟨v,b,c1,A1,h5,h6,h7,hr⟩:=At5 (ty:=ty) hr0 hx ha0;rw[<-hw0];exact Ay (h7 dst pos af none) (fin hle0 v b _ g0' AH0 A1 (Le.refl _) hr h6 h5)
    obtain⟨a,c0,g0',AH0,A0,hx,hw0,hle0,hr0,ha0⟩:=Pm h hx (h.ev ha);obtain⟨g1,A1,hw,hle,hr⟩:=Apu hr0;obtain⟨v,b,h5,h6,h7⟩:=Vj (ty:=ty) (k:=λb=>(Akz c0).put E.N dst b k) hr hx (Anb (ha0.mono hle));rw[<-hw0,<-hw];exact Ay (h7 dst pos af none) (fin (hle0.trans hle) v b _ g1 AH0 A1 (Le.refl _) hr h6 h5)
   obtain⟨a,c0,g0',AH0,A0,hx,hw0,hle0,hr0,ha0⟩:=Pm h hx (h.ev ha);obtain⟨g1,A1,hw,hle,hr⟩:=UE hr0 _ a;obtain⟨v,b,h5,h6,h7⟩:=Vj (ty:=ty) (k:=λb=>(Uv c0 _ a).put E.N dst b k) hr hx (ha0.mono hle);rw[<-hw0,<-hw];exact Ay (h7 dst pos af none) (fin (hle0.trans hle) v b _ g1 AH0 A1 (Le.refl _) hr h6 h5)
  .exact hx.elim
 .split at hx
  .rename_i z hz;exact eff rfl (Le.refl _) h (Auc (kk:=λa c'=>c'.put E.N dst a k) h hz hx)
  .split at hx
   .rename_i a ha;split at hx
    .split at hx
     .rename_i b hb;obtain⟨g1,A1,hw,hle,hr⟩:=J6 h _;exact eff hw hle hr (Ak5 (kk:=λa c'=>c'.put E.N dst a k) hr hx ((h.ev ha).mono hle) (hr.ev hb))
     .exact hx.elim
    .obtain⟨a,c0,g1,AH0,A0,hx,hw0,hle0,hr0,ha0⟩:=Pm h hx (h.ev ha);split at hx
     .rename_i b hb;exact eff hw0 hle0 hr0 (Ak5 (kk:=λa c'=>c'.put E.N dst a k) hr0 hx ha0 (hr0.ev hb))
     .exact hx.elim
   .exact hx.elim
 .split at hx
  .split at hx
   .rename_i a ha;obtain⟨g1,A1,hw,hle,hr⟩:=J6 h _;split at hx
    .exact eff hw hle hr (Ar4 hr hx (hr.ev ha))
    .exact eff hw hle hr (Ar5 hr hx (hr.ev ha))
   .exact hx.elim
  .obtain⟨c1,g1,AH1,A1,hx,hw,hle,hr⟩:=Ahl h hx;split at hx
   .rename_i a ha;exact eff hw hle hr (Ar7 hr hx (hr.ev ha))
   .exact hx.elim
 .obtain⟨c1,g1,AH1,A1,hx,hw,hle,hr⟩:=Ahl h hx;exact eff hw hle hr (Ase hr hx)
 .obtain⟨g1,A1,hw,hle,hr⟩:=OE _ h;exact eff hw hle hr (Ar6 hr hx)
 .exact eff rfl (Le.refl _) h (Avu h hx)
 .obtain⟨g1,A1,hw,hle,hr⟩:=OE _ h;exact eff hw hle hr (Avy hr hx)
 .exact eff rfl (Le.refl _) h (Auf h hx)
 .split at hx
  .exact eff rfl (Le.refl _) h (Aqw h hx)
  .exact eff rfl (Le.refl _) h (Avw h hx)
 .split at hx
  .exact eff rfl (Le.refl _) h (Av0 h hx)
  .exact eff rfl (Le.refl _) h (Avz h hx)
 .obtain⟨g1,A1,hw,hle,hr⟩:=J6 h _;split at hx
  .exact eff hw hle hr (Aks hr hx)
  .exact eff hw hle hr (Akt hr hx)
 .obtain⟨g1,A1,hw,hle,hr⟩:=J6 h _;split at hx
  .exact eff hw hle hr (Aks hr hx).ins
  .exact eff hw hle hr (Akt hr hx).ins
 .split at hx
  .exact eff rfl (Le.refl _) h (Aw0 h rfl hx)
  .exact eff rfl (Le.refl _) h (Aw1 h rfl hx)
 .split at hx
  .exact eff rfl (Le.refl _) h (Av1 h rfl hx)
  .exact eff rfl (Le.refl _) h (Av2 h rfl hx)
  .exact val rfl (Le.refl _) h hx
 .obtain⟨g1,A1,hw,hle,hr⟩:=Ab9 h _ _;exact val hw hle hr hx
 .obtain⟨g1,A1,hw,hle,hr⟩:=J6 h _;exact val hw hle hr hx
 .exact eff rfl (Le.refl _) h (Aw6 h hx)
 .exact eff rfl (Le.refl _) h (Arz h hx)
 .replace hx:=AM hx;obtain⟨ht,hx⟩:=hx;have ht:=Nat.eq_of_beq_eq_true ht;subst ht;exact eff rfl (Le.refl _) h (Asd h hx)
 .rename_i cl as at_
  split at hx
  .rename_i r hr;obtain⟨at2,he⟩:=Aec hr;cases he;obtain⟨v,a,c',g',k1,k2,k3,k4,k5,k6⟩:=Aed h hx;refine Vx r.2.1.can rfl (Calls.mono (k6 g.w (Sx.refl g)) λe w' he=>?_);obtain⟨rfl,rfl⟩:=he;have:=fin (Le.refl _) v a c' g' AH A k3 k4 k5 k1;rw[k2]at this;exact this
  split at hx
  .rename_i r hr;obtain rfl:=Awl hr;split at hx
   .rename_i op hop _;exact Awk h hop hx E.N ops R K os dst ty pos af hR (fin (Le.refl _))
   .obtain⟨c2,g2,AH2,A2,hx,hw2,hle2,hr2,_⟩:=D0 h hx;rw[<-hw2];exact Awj hr2 hx E.N ops R K os dst ty pos af hR (fin hle2)
  obtain⟨g1,A1,hw,hle,hr⟩:=Ari (sigs:=E.sigs) h cl as.toList;split at hx
  .rw[<-hw];exact Aog hr (by assumption) hx E.N ops R K os dst ty pos af hR (fin hle)
  obtain⟨c2,g2,AH2,A2,hx,hw2,hle2,hr2,_⟩:=D0 hr hx;rw[<-hw,<-hw2];exact Aoe hr2 hx E.N ops R K os dst ty pos af hR (fin (hle.trans hle2))
 .split at hx
  .obtain⟨v,a,h1,h2,h3⟩:=Aty h hx;exact Ay (h3 ty dst pos af none) (fin (Le.refl _) v a c g AH A (Le.refl _) h h2 h1)
  .exact val rfl (Le.refl _) h hx
 .obtain⟨c2,g2,AH2,A2,hx,hw2,hle2,hr2,_⟩:=D0 h hx;split at hx
  .rename_i t T d ha hop;obtain⟨u,h1,h2⟩:=hr2.ev ha;have hH:=hr2.hr;rw[hop]at hH;rw[<-hw2];exact Aqi h1 (hR _ _ g2.I AH2 c2.H t ⟨T,d⟩ u hr2.le (DD hr2.st) hH rfl h2 hx)
  .exact hx.elim
 .exact val rfl (Le.refl _) h hx
variable {j d:Nat}
theorem Ayj(hj:(ops[j]?).bind (·.dst)=some d)(hu:∀b,f d≠.bool b):yl ops f j=none:=by unfold yl;rw[hj];simp only
theorem XC{b:Bool}(hg:o.guard=some (j,b))(hj:(ops[j]?).bind (·.dst)=some d)(hu:∀b,f d≠.bool b):Region.wanted o (yl ops f)=false:=by simp [Region.wanted,hg,Ayj hj hu]
def gop(E:Env Y)(o:Oper)(b t:Bool)(c:Cf Y)(k:Cf Y->Prop):Prop:=match b,t with
 |true,true |false,false=>xop E {o with guard:=none} c k
 |_,_=>c.put E.N o.dst (.val undef) k
def UJ(E:Env Y)(ops:Array Oper):List Oper->Cf Y->(Cf Y->Prop)->Prop
 | [],c,k=>k c
 |o::os,c,k=>match o.guard with
  |none=>xop E o c λc'=>UJ E ops os c' k
  |some (j,b)=>match (ops[j]?).bind (·.dst) with
   |some d=>match Aq4 (Hu c.fr d) with
    |true=>c.put E.N o.dst (.val undef) λc'=>UJ E ops os c' k
    |false=>match (Hu c.fr d).bind asB with
     |some (.kn t)=>gop E o b t c λc'=>UJ E ops os c' k
     |some (.pr p _)=>(p->gop E o b true (c.set d (.val (.bool true))) λc'=>UJ E ops os c' k)/\(¬p->gop E o b false (c.set d (.val (.bool false))) λc'=>UJ E ops os c' k)
     |none=>False
   |none=>False
theorem Aes(h:RG g0 T c f g AH A){b t:Bool}{k:Cf Y->Prop}(hg:o.guard=some (j,b))(hj:(ops[j]?).bind (·.dst)=some d)(hd:f d=.bool t)(hx:gop E o b t c k){R:List PanicEntry->World->Prop}{K:Fr->World->Prop}{os:List Oper}(hR:GC g0 T E.X R)(next:∀c' f' g' AH' A',Le g g'->RG g0 T c' f' g' AH' A'->k c'->WL Y.P E.N ops R false K os f' g'.w):WL Y.P E.N ops R false K (o::os) f g.w:=by
 obtain⟨dst,op,ty,pos,af,gd⟩:=o;simp only at hg;subst hg;have hy:yl ops f j=some t:=by unfold yl;rw[hj];simp only[hd]
 unfold gop at hx;have yes:b=t->xop E ⟨dst,op,ty,pos,af,none⟩ c k->WL Y.P E.N ops R false K (⟨dst,op,ty,pos,af,some (j,b)⟩::os) f g.w:=λe hx=>by refine Ako ?_ (Adr h rfl hx hR next);subst e;simp [Region.wanted,hy]
 have no:b≠t->c.put E.N dst (.val undef) k->WL Y.P E.N ops R false K (⟨dst,op,ty,pos,af,some (j,b)⟩::os) f g.w:=λe hx=>by
  obtain⟨c2,g2,k1,k2,k3,k4,k5⟩:=h.put (a:=.val undef) (v:=undef) rfl hx;refine Afs ?_ ?_
  .simp [Region.wanted,hy];exact λh=>e h.symm
  .rw[<-k2];exact next c2 _ g2 _ _ k4 k5 k1
 split at hx
 .exact yes rfl hx
 .exact yes rfl hx
 .refine no ?_ hx;cases b<;>cases t<;>first|(intro h;cases h;done)|skip
  all_goals first|(rename_i h1 h2;exact(h1 rfl rfl).elim)|(rename_i h1 h2;exact(h2 rfl rfl).elim)|(rename_i h1;exact(h1 rfl rfl).elim)
theorem Rm{E:Env Y}{g0:B3}{T:Bh}{ops:Array Oper}{R:List PanicEntry->World->Prop}{K:Fr->World->Prop}(hR:GC g0 T E.X R){k:Cf Y->Prop}:∀(os:List Oper){g:B3}{AH A:Bh}{c:Cf Y}{f:Fr},RG g0 T c f g AH A->UJ E ops os c k->(∀c' f' g' AH' A',Le g g'->RG g0 T c' f' g' AH' A'->k c'->K f' g'.w)->WL Y.P E.N ops R false K os f g.w
 | [],g,AH,A,c,f,h,hx,next=>next c f g AH A (Le.refl _) h hx
 |o::os,g,AH,A,c,f,h,hx,next=>by
  have rest:∀c' f' g' AH' A',Le g g'->RG g0 T c' f' g' AH' A'->UJ E ops os c' k->WL Y.P E.N ops R false K os f' g'.w:=λc' f' g' AH' A' hle hr hk=>Rm hR os hr hk λc2 f2 g2 AH2 A2 hle2 hr2 hk2=>next c2 f2 g2 AH2 A2 (hle.trans hle2) hr2 hk2;unfold UJ at hx;split at hx
  .rename_i hg;exact Adr h hg hx hR rest
  .rename_i j b hg;split at hx
   .rename_i d hj;have bd:∀{p:BV},(Hu c.fr d).bind asB=some p->f d=.bool p.val:=λ{p}hp=>by
     cases hz:Hu c.fr d with
     |none=>rw[hz]at hp;cases hp
     |some a=>rw[hz]at hp;exact Nx hp (h.fr d a hz)
    split at hx
    .rename_i hu;have hu:=Ags hu λa ha=>h.fr d a ha;obtain⟨c2,g2,k1,k2,k3,k4,k5⟩:=h.put (a:=.val undef) (v:=undef) rfl hx;refine Afs (XC hg hj hu) ?_;rw[<-k2];exact rest c2 _ g2 _ _ k4 k5 k1
    split at hx
    .rename_i t ht;exact Aes h hg hj (bd ht) hx hR rest
    .rename_i p dp ht;have hv:=bd ht;by_cases hp:p
     .have hv:f d=.bool true:=by rw[hv];show Value.bool (@decide p dp)=_;rw[@decide_eq_true p dp hp]
      exact Aes (h.cons (a:=.val (.bool true)) hv) hg hj hv (hx.1 hp) hR rest
     .have hv:f d=.bool false:=by rw[hv];show Value.bool (@decide p dp)=_;rw[@decide_eq_false p dp hp]
      exact Aes (h.cons (a:=.val (.bool false)) hv) hg hj hv (hx.2 hp) hR rest
    .exact hx.elim
   .exact hx.elim
end
end
section
section
variable {Y:Sys}
def S1D(Y:Sys):Sh1->Type
 | .dat t=>den Y.D t
 | .own t=>List (den Y.D t)
def L1D(Y:Sys):List Sh1->Type
 | []=>Unit
 |s::l=>S1D Y s×L1D Y l
def ShD(Y:Sys):Sh->Type
 | .one s=>S1D Y s
 | .nat=>Nat
 | .map k e=>List (den Y.D k×den Y.D e)
 | .blk l=>L1D Y l
 | .arr t=>List (den Y.D t)
def VT(Y:Sys):List (Nat×Sh)->Type
 | []=>Unit
 |p::l=>ShD Y p.2×VT Y l
def S1R(I:BY)(w:World):(s:Sh1)->S1D Y s->Value->Bh->Prop
 | .dat t,x,v,A=>rp Y.toUS t I w v x/\A=[]
 | .own t,x,v,A=>ND Y t I w A v x
def L1R(I:BY)(w:World):(l:List Sh1)->L1D Y l->List Value->Bh->Prop
 | [],_,vs,A=>vs=[]/\A=[]
 |s::l,x,vs,A=>∃v vs' A1 A2,vs=v::vs'/\A=A1++A2/\v.oneCell'=true/\S1R I w s x.1 v A1/\L1R I w l x.2 vs' A2
def A4x(x:Nat)(v:Value)(A:Bh):Prop:=v=.int .i64 (x:Int)/\x<=9223372036854775807/\A=[]
def ShR(I:BY)(w:World):(s:Sh)->ShD Y s->Value->Bh->Prop
 | .one s,x,v,A=>S1R I w s x v A
 | .nat,x,v,A=>A4x x v A
 | .map k e,x,v,A=>WN Y k e I w A v x
 | .blk l,x,v,A=>∃b arr e A',A=(b,.cells arr e (0,0))::A'/\v=.pointer (some ⟨b,0,none⟩)/\L1R I w l x arr.toList A'
 | .arr t,x,v,A=>∃b off len cap,v=.pointer (some ⟨b,off,none⟩)/\ND Y t I w A (.slice (some ⟨b,off,none⟩) len cap) x
def VTR(I:BY)(w:World)(f:Fr):(l:List (Nat×Sh))->VT Y l->Bh->Prop
 | [],_,A=>A=[]
 |p::l,x,A=>∃A1 A2,A=A1++A2/\ShR I w p.2 x.1 (f p.1) A1/\VTR I w f l x.2 A2
def Ajf:(s:Sh1)->AV Y->List (Nat×C6 Y)->Option (S1D Y s×List (Nat×C6 Y))
 | .dat t,a,sg=>match U0 t a with
  |some x=>some (x,sg)
  |none=>none
 | .own t,.own i,sg=>match HG sg i with
  |some (.sl T xs)=>match Ty.dec T t with
   | .isTrue h=>some ((h▸xs:List (den Y.D t)),Gb sg i)
   | .isFalse _=>none
  |_=>none
 | .own _,.val (.slice none 0 0),sg=>some ([],sg)
 | .own _,_,_=>none
variable {g:B3} {v:Value} {A:Bh}
theorem UD{s:Sh1}{a:AV Y}{sg:List (Nat×C6 Y)}{r:S1D Y s×List (Nat×C6 Y)}(h:Ajf s a sg=some r)(hs:Fv g sg A)(ha:AR g a v):∃A1 A2,A.Perm (A1++A2)/\S1R g.I g.w s r.1 v A1/\Fv g r.2 A2:=by
 unfold Ajf at h;split at h
 .split at h
  .rename_i x hx;cases h;exact⟨[],A,List.Perm.refl _,⟨Dk hx ha,rfl⟩,hs⟩
  .cases h
 .split at h
  .rename_i T xs hi;split at h
   .rename_i e _;subst e;cases h;obtain⟨A1,A2,h1,h2,h3,h4⟩:=hs.take hi;refine⟨A1,A2,h1,?_,h4⟩;show ND Y T _ _ _ v _;rw[ha.2];exact h3
   .cases h
  .cases h
 .cases h;obtain rfl:v=_:=ha;exact⟨[],A,List.Perm.refl _,@Bw.nil _ (RT Y.toUS _) _ _,hs⟩
 .cases h
def Anj:(l:List Sh1)->List (AV Y)->List (Nat×C6 Y)->Option (L1D Y l×List (Nat×C6 Y))
 | [],[],sg=>some ((),sg)
 |s::l,a::as,sg=>match Ajf s a sg with
  |some r=>match Anj l as r.2 with
   |some q=>some ((r.1,q.1),q.2)
   |none=>none
  |none=>none
 |_,_,_=>none
theorem Agy{g:B3}:∀{l:List Sh1}{as:List (AV Y)}{vs:List Value}{sg:List (Nat×C6 Y)}{A:Bh}{r:L1D Y l×List (Nat×C6 Y)},Anj l as sg=some r->Fv g sg A->F2 (λa v=>AR g a v/\v.oneCell'=true) as vs->∃A1 A2,A.Perm (A1++A2)/\L1R g.I g.w l r.1 vs A1/\Fv g r.2 A2
 | [],[],_,sg,A,r,h,hs,.nil=>by cases h;exact⟨[],A,List.Perm.refl _,⟨rfl,rfl⟩,hs⟩
 |s::l,a::as,v::vs,sg,A,r,h,hs,.cons h1 h2=>by
  unfold Anj at h;split at h
  .rename_i r1 hr1;split at h
   .rename_i q hq;cases h;obtain⟨B1,B2,k1,k2,k3⟩:=UD hr1 hs h1.1;obtain⟨A1,A2,k4,k5,k6⟩:=Agy hq k3 h2;exact⟨B1++A1,A2,perm_cons k1 k4,⟨v,vs,B1,A1,rfl,rfl,h1.2,k2,k5⟩,k6⟩
   .cases h
  .cases h
 |[],_::_,_,_,_,_,h,_,_|_::_,[],_,_,_,_,h,_,_=>by simp [Anj]at h
def Az1:AV Y->List (Nat×C6 Y)->Option (Nat×List (Nat×C6 Y))
 | .nat j,sg=>some (j,sg)
 | .val (.int .i64 (.ofNat j)),sg=>match Nat.ble j 9223372036854775807 with
  |true=>some (j,sg)
  |false=>none
 |_,_=>none
def getM(k e:Ty):AV Y->List (Nat×C6 Y)->Option (List (den Y.D k×den Y.D e)×List (Nat×C6 Y))
 | .own i,sg=>match HG sg i with
  |some (.mp k' e' m)=>match Ty.dec k' k,Ty.dec e' e with
   | .isTrue h,.isTrue h'=>some ((h▸h'▸m:List (den Y.D k×den Y.D e)),Gb sg i)
   |_,_=>none
  |_=>none
 |_,_=>none
def Az2(l:List Sh1):AV Y->List (Nat×C6 Y)->Option (L1D Y l×List (Nat×C6 Y))
 | .adr i 0,sg=>match HG sg i with
  |some (.blk cs)=>Anj l cs (Gb sg i)
  |_=>none
 |_,_=>none
def Az3(t:Ty):AV Y->List (Nat×C6 Y)->Option (List (den Y.D t)×List (Nat×C6 Y))
 | .el i _ 0 0,sg=>match HG sg i with
  |some (.sl T xs)=>match Ty.dec T t with
   | .isTrue h=>some ((h▸xs:List (den Y.D t)),Gb sg i)
   | .isFalse _=>none
  |_=>none
 |_,_=>none
def Aje:(s:Sh)->AV Y->List (Nat×C6 Y)->Option (ShD Y s×List (Nat×C6 Y))
 | .one s,a,sg=>Ajf s a sg
 | .nat,a,sg=>Az1 a sg
 | .map k e,a,sg=>getM k e a sg
 | .blk l,a,sg=>Az2 l a sg
 | .arr t,a,sg=>Az3 t a sg
variable {s:Sh}
theorem Z6{a:AV Y}{sg:List (Nat×C6 Y)}{r:ShD Y s×List (Nat×C6 Y)}(h:Aje s a sg=some r)(hs:Fv g sg A)(ha:AR g a v):∃A1 A2,A.Perm (A1++A2)/\ShR g.I g.w s r.1 v A1/\Fv g r.2 A2:=by
 cases s with
 |one s=>exact UD h hs ha
 |nat=>
  simp only[Aje]at h;unfold Az1 at h;split at h
  .cases h;exact⟨[],A,List.Perm.refl _,⟨ha.1,ha.2,rfl⟩,hs⟩
  .split at h
   .rename_i hb;cases h;exact⟨[],A,List.Perm.refl _,⟨ha,Nat.le_of_ble_eq_true hb,rfl⟩,hs⟩
   .cases h
  .cases h
 |map k e=>
  simp only[Aje]at h;unfold getM at h;split at h
  .split at h
   .rename_i k' e' m hi;split at h
    .rename_i ek ee _ _;subst ek ee;cases h;obtain⟨A1,A2,h1,h2,h3,h4⟩:=hs.take hi;refine⟨A1,A2,h1,?_,h4⟩;show WN Y _ _ _ _ _ v _;rw[ha.2];exact h3
    .cases h
   .cases h
  .cases h
 |blk l=>
  simp only[Aje]at h;unfold Az2 at h;split at h
  .split at h
   .rename_i cs hi;obtain⟨A1,A2,h1,h2,⟨b,arr,e,rfl,h3,h4⟩,h5⟩:=hs.take hi;obtain⟨B1,B2,k1,k2,k3⟩:=Agy h h5 h4;obtain⟨_,b',h6,h7⟩:=ha;rw[h3]at h6;cases h6;exact⟨(b,.cells arr e (0,0))::B1,B2,perm_cons h1 k1,⟨b,arr,e,B1,rfl,h7,k2⟩,k3⟩
   .cases h
  .cases h
 |arr t=>
  simp only[Aje]at h;unfold Az3 at h;split at h
  .split at h
   .rename_i T xs hi;split at h
    .rename_i ek _;subst ek;cases h;obtain⟨A1,A2,h1,h2,h3,h4⟩:=hs.take hi;obtain⟨_,b,off,len,cap,h6,h7⟩:=ha;simp only[Nat.zero_mul,Nat.add_zero]at h7;refine⟨A1,A2,h1,⟨b,off,len,cap,h7,?_⟩,h4⟩;have h3:ND Y T g.I g.w A1 (g.μ _) xs:=h3;rw[h6]at h3;exact h3
    .cases h
   .cases h
  .cases h
def Aeu(fr:List (Nat×AV Y)):(l:List (Nat×Sh))->List (Nat×C6 Y)->Option (VT Y l×List (Nat×C6 Y))
 | [],sg=>some ((),sg)
 |p::l,sg=>match Hu fr p.1 with
  |some a=>match Aje p.2 a sg with
   |some r=>match Aeu fr l r.2 with
    |some q=>some ((r.1,q.1),q.2)
    |none=>none
   |none=>none
  |none=>none
theorem Z5{g:B3}{f:Fr}{fr:List (Nat×AV Y)}(hfr:∀i a,Hu fr i=some a->AR g a (f i)):∀{l:List (Nat×Sh)}{sg:List (Nat×C6 Y)}{A:Bh}{r:VT Y l×List (Nat×C6 Y)},Aeu fr l sg=some r->Fv g sg A->∃A1 A2,A.Perm (A1++A2)/\VTR g.I g.w f l r.1 A1/\Fv g r.2 A2
 | [],sg,A,r,h,hs=>by cases h;exact⟨[],A,List.Perm.refl _,rfl,hs⟩
 |p::l,sg,A,r,h,hs=>by
  unfold Aeu at h;split at h
  .rename_i a ha;split at h
   .rename_i r1 hr1;split at h
    .rename_i q hq;cases h;obtain⟨B1,B2,k1,k2,k3⟩:=Z6 hr1 hs (hfr _ _ ha);obtain⟨A1,A2,k4,k5,k6⟩:=Z5 hfr hq k3;exact⟨B1++A1,A2,perm_cons k1 k4,⟨B1,A1,rfl,k2,k5⟩,k6⟩
    .cases h
   .cases h
  .cases h
def Aln:(s:Sh1)->S1D Y s->Nat->AV Y×List (Nat×C6 Y)×Nat
 | .dat .ptr,x,n=>(.ptr n x,[],n+1)
 | .dat (.int k),x,n=>(.dat (.int k) x,[],n)
 | .dat .bool,x,n=>(.dat .bool x,[],n)
 | .dat .str,x,n=>(.dat .str x,[],n)
 | .dat .mref,x,n=>(.dat .mref x,[],n)
 | .dat (.sl e),x,n=>(.dat (.sl e) x,[],n)
 | .dat (.u m),x,n=>(.dat (.u m) x,[],n)
 | .own t,x,n=>(.own n,[(n,.sl t x)],n+1)
theorem Aga{s:Sh1}{x:S1D Y s}(h:S1R g.I g.w s x v A):∃g',Le g g'/\g'.w=g.w/\g'.I=g.I/\g'.n=(Aln s x g.n).2.2/\AR g' (Aln s x g.n).1 v/\Fv g' (Aln s x g.n).2.1 A:=by
 have named:=Le.new (g:=g) (v:=v) (Ext.refl g.I g.w);cases s with
 |own t=>
  refine⟨g.new g.w v,named,rfl,rfl,rfl,FX rfl,A,[],by simp,Nat.lt_succ_self _,?_,rfl⟩;show ND Y t _ _ _ _ _;rw[g.B7];exact h
 |dat t=>
  obtain⟨h,rfl⟩:=h;cases t with
  |ptr=>exact⟨g.new g.w v,named,rfl,rfl,rfl,⟨Nat.lt_succ_self _,g.B7 _ _,KN.1 h⟩,rfl⟩
  |_=>exact⟨g,Le.refl _,rfl,rfl,rfl,h,rfl⟩
def Alm:(l:List Sh1)->L1D Y l->Nat->List (AV Y)×List (Nat×C6 Y)×Nat
 | [],_,n=>([],[],n)
 |s::l,x,n=>let r:=Aln s x.1 n;let q:=Alm l x.2 r.2.2;(r.1::q.1,r.2.1++q.2.1,q.2.2)
theorem Af9:∀{l:List Sh1}{x:L1D Y l}{g:B3}{vs:List Value}{A:Bh},L1R g.I g.w l x vs A->∃g',Le g g'/\g'.w=g.w/\g'.I=g.I/\g'.n=(Alm l x g.n).2.2/\F2 (λa v=>AR g' a v/\v.oneCell'=true) (Alm l x g.n).1 vs/\Fv g' (Alm l x g.n).2.1 A
 | [],x,g,vs,A,⟨h1,h2⟩=>by subst h1 h2;exact⟨g,Le.refl _,rfl,rfl,rfl,.nil,rfl⟩
 |s::l,x,g,vs,A,⟨v,vs',A1,A2,h1,h2,h3,h4,h5⟩=>by subst h1 h2;obtain⟨g1,a1,a2,a3,a4,a5,a6⟩:=Aga h4;obtain⟨g2,b1,b2,b3,b4,b5,b6⟩:=Af9 (g:=g1) (x:=x.2) (by rw[a3,a2];exact h5);rw[a4]at b4 b5 b6;exact⟨g2,a1.trans b1,b2.trans a2,b3.trans a3,b4,.cons ⟨a5.mono b1,h3⟩ b5,(a6.mono b1).app b6⟩
def Za:(s:Sh)->ShD Y s->Nat->AV Y×List (Nat×C6 Y)×Nat
 | .one s,x,n=>Aln s x n
 | .nat,x,n=>(.nat x,[],n)
 | .map k e,x,n=>(.own n,[(n,.mp k e x)],n+1)
 | .blk l,x,n=>let q:=Alm l x (n+1);(.adr n 0,(n,.blk q.1)::q.2.1,q.2.2)
 | .arr t,x,n=>(.el n t 0 0,[(n,.sl t x)],n+1)
theorem R9{x:ShD Y s}(h:ShR g.I g.w s x v A):∃g',Le g g'/\g'.w=g.w/\g'.I=g.I/\g'.n=(Za s x g.n).2.2/\AR g' (Za s x g.n).1 v/\Fv g' (Za s x g.n).2.1 A:=by
 have named:=Le.new (g:=g) (v:=v) (Ext.refl g.I g.w);cases s with
 |one s=>exact Aga h
 |nat=>obtain⟨h1,h2,rfl⟩:=h;exact⟨g,Le.refl _,rfl,rfl,rfl,⟨h1,h2⟩,rfl⟩
 |map k e=>
  refine⟨g.new g.w v,named,rfl,rfl,rfl,FX rfl,A,[],by simp,Nat.lt_succ_self _,?_,rfl⟩;show WN Y _ _ _ _ _ _ _;rw[g.B7];exact h
 |blk l=>
  obtain⟨b,arr,e,A',rfl,rfl,h3⟩:=h;obtain⟨g2,b1,b2,b3,b4,b5,b6⟩:=Af9 (g:=g.new g.w (.pointer (some ⟨b,0,none⟩))) h3;have hn:g.n<(g.new g.w (.pointer (some ⟨b,0,none⟩))).n:=Nat.lt_succ_self _;have hμ:g2.μ g.n=.pointer (some ⟨b,0,none⟩):=by rw[b1.μ _ hn,g.B7]
  refine⟨g2,named.trans b1,b2,b3,b4,⟨Nat.lt_of_lt_of_le hn b1.n,b,hμ,rfl⟩,[(b,.cells arr e (0,0))],A',rfl,Nat.lt_of_lt_of_le hn b1.n,⟨b,arr,e,rfl,hμ,b5⟩,b6⟩
 |arr t=>
  obtain⟨b,off,len,cap,rfl,h⟩:=h;refine⟨g.new g.w (.slice (some ⟨b,off,none⟩) len cap),Le.new (g:=g) (Ext.refl g.I g.w),rfl,rfl,rfl,⟨Nat.lt_succ_self _,b,off,len,cap,g.B7 _ _,by simp⟩,A,[],by simp,Nat.lt_succ_self _,?_,rfl⟩;show ND Y t _ _ _ _ _;rw[g.B7];exact h
def rnm(fr:List (Nat×AV Y))(kp:List Nat)(t:Nat):Option Nat:=match Lt t kp,Hu fr t with
 |true,some (.own i)=>some i
 |_,_=>none
def Aqb(rn:Option Nat):(s:Sh)->ShD Y s->Nat->AV Y×List (Nat×C6 Y)×Nat
 | .one (.own t),x,n=>match rn with
  |some i=>(.own i,[(i,.sl t x)],n)
  |none=>Za (.one (.own t)) x n
 | .one (.dat t),x,n=>Za (.one (.dat t)) x n
 | .nat,x,n=>Za .nat x n
 | .map k e,x,n=>match rn with
  |some i=>(.own i,[(i,.mp k e x)],n)
  |none=>Za (.map k e) x n
 | .blk l,x,n=>Za (.blk l) x n
 | .arr t,x,n=>Za (.arr t) x n
theorem Aqa{rn:Option Nat}{x:ShD Y s}(hn:∀i,rn=some i->i<g.n/\g.μ i=v)(h:ShR g.I g.w s x v A):∃g',Le g g'/\g'.w=g.w/\g'.I=g.I/\g'.n=(Aqb rn s x g.n).2.2/\AR g' (Aqb rn s x g.n).1 v/\Fv g' (Aqb rn s x g.n).2.1 A:=by
 cases s with
 |one s=>
  cases s with
  |dat t=>exact R9 h
  |own t=>
   cases rn with
   |none=>exact R9 h
   |some i=>
    obtain⟨h1,h2⟩:=hn i rfl;refine⟨g,Le.refl _,rfl,rfl,rfl,⟨h1,h2.symm⟩,A,[],by simp,h1,?_,rfl⟩;show ND Y t _ _ _ _ _;rw[h2];exact h
 |nat=>exact R9 h
 |map k e=>
  cases rn with
  |none=>exact R9 h
  |some i=>
   obtain⟨h1,h2⟩:=hn i rfl;refine⟨g,Le.refl _,rfl,rfl,rfl,⟨h1,h2.symm⟩,A,[],by simp,h1,?_,rfl⟩;show WN Y _ _ _ _ _ _ _;rw[h2];exact h
 |blk l|arr t=>exact R9 h
def YZ(fr:List (Nat×AV Y))(kp:List Nat):(l:List (Nat×Sh))->VT Y l->Nat->List (Nat×AV Y)×List (Nat×C6 Y)×Nat
 | [],_,n=>([],[],n)
 |p::l,x,n=>let r:=Aqb (rnm fr kp p.1) p.2 x.1 n;let q:=YZ fr kp l x.2 r.2.2;((p.1,r.1)::q.1,r.2.1++q.2.1,q.2.2)
theorem YY{f:Fr}{fr:List (Nat×AV Y)}{kp:List Nat}:∀{l:List (Nat×Sh)}{x:VT Y l}{g:B3}{A:Bh},(∀t i,rnm fr kp t=some i->i<g.n/\g.μ i=f t)->VTR g.I g.w f l x A->∃g',Le g g'/\g'.w=g.w/\g'.I=g.I/\g'.n=(YZ fr kp l x g.n).2.2/\(∀i a,Hu (YZ fr kp l x g.n).1 i=some a->AR g' a (f i))/\Fv g' (YZ fr kp l x g.n).2.1 A
 | [],x,g,A,hn,h=>by cases h;exact⟨g,Le.refl _,rfl,rfl,rfl,by intro i a h;simp [YZ,Hu]at h,rfl⟩
 |p::l,x,g,A,hn,⟨A1,A2,h1,h2,h3⟩=>by
  subst h1;obtain⟨g1,a1,a2,a3,a4,a5,a6⟩:=Aqa (hn p.1) h2;obtain⟨g2,b1,b2,b3,b4,b5,b6⟩:=YY (g:=g1) (x:=x.2) (λt i hi=>by obtain⟨k1,k2⟩:=hn t i hi;exact⟨Nat.lt_of_lt_of_le k1 a1.n,by rw[a1.μ i k1];exact k2⟩) (by rw[a3,a2];exact h3)
  rw[a4]at b4 b5 b6;refine⟨g2,a1.trans b1,b2.trans a2,b3.trans a3,b4,λi a hi=>?_,(a6.mono b1).app b6⟩;unfold YZ Hu at hi;simp only at hi;by_cases he:p.1=i
  .rw[if_pos he]at hi;cases hi;subst he;exact a5.mono b1
  .rw[if_neg he]at hi;exact b5 i a hi
def Azm:AV Y->Bool
 | .own _ | .adr _ _ | .el _ _ _ _ | .sub _ _ _=>false
 |_=>true
def TU(fr:List (Nat×AV Y)):List Nat->List (Nat×AV Y)
 | []=>[]
 |t::l=>match Hu fr t with
  |some a=>match Azm a with
   |true=>(t,a)::TU fr l
   |false=>TU fr l
  |none=>TU fr l
theorem VH{fr:List (Nat×AV Y)}{i:Nat}{a:AV Y}:∀{l:List Nat},Hu (TU fr l) i=some a->Hu fr i=some a/\Lt i l=true
 | [],h=>by simp [TU,Hu]at h
 |t::l,h=>by
  have rest:Hu (TU fr l) i=some a->Hu fr i=some a/\Lt i (t::l)=true:=λh=>by obtain⟨h1,h2⟩:=VH h;exact⟨h1,by simp [Lt,h2]⟩
  unfold TU at h;split at h
  .rename_i b hb;split at h
   .unfold Hu at h;by_cases he:t=i
    .simp only[if_pos he]at h;cases h;subst he;exact⟨hb,by simp [Lt]⟩
    .simp only[if_neg he]at h;exact rest h
   .exact rest h
  .exact rest h
theorem Zz{i:Nat}{a:AV Y}:∀{l m:List (Nat×AV Y)},Hu (l++m) i=some a->Hu l i=some a∨Hu m i=some a
 | [],_,h=>.inr h
 |p::l,m,h=>by
  have h:(if p.1=i then some p.2 else Hu (l++m) i)=some a:=h;show (if p.1=i then some p.2 else Hu l i)=some a∨_;by_cases he:p.1=i
  .rw[if_pos he]at h ⊢;exact .inl h
  .rw[if_neg he]at h ⊢;exact Zz h
def hdC(c:Cf Y)(la:LA)(x:VT Y la.vars)(H:HH Y):Cf Y:={fr:=(YZ c.fr la.BA la.vars x c.nx).1++TU c.fr la.BA,sg:=(YZ c.fr la.BA la.vars x c.nx).2.1,nx:=(YZ c.fr la.BA la.vars x c.nx).2.2,H:=H,op:=none,hs:=c.hs,pt:=la.BA++c.pt}
theorem OB{i:Nat}:∀{l m:List Nat},Lt i l=true->Lt i (l++m)=true
 |_::l,m,h=>by simp only[List.cons_append,Lt,Bool.or_eq_true]at h ⊢;exact h.imp id OB
theorem Tz{i:Nat}:∀{l m:List Nat},Lt i m=true->Lt i (l++m)=true
 | [],_,h=>h
 |_::l,m,h=>by simp only[List.cons_append,Lt,Bool.or_eq_true];exact .inr (Tz h)
theorem Ang{g0 g1:B3}{T AH AH1 A1:Bh}{c:Cf Y}{f f1:Fr}(h:RG g0 T c f g AH A){la:LA}(hle:Ext g.I g.w g1.I g1.w)(hμ:∀i,i<g.n->g1.μ i=g.μ i)(hφ:∀t,Lt t (la.BA++c.pt)=true->f1 t=f t){x:VT Y la.vars}{H:HH Y}(hv:VTR g1.I g1.w f1 la.vars x A1)(hst:St g1.I g1.w (AH1++(A1++T)))(hH:Hk (P2 Y) g1.I g1.w H AH1):∃g2,g2.w=g1.w/\g2.φ=f/\Lx g g2/\RG g0 T (hdC c la x H) f1 g2 AH1 A1:=by
 let gb:B3:={I:=g1.I,w:=g1.w,n:=g.n,μ:=g1.μ,φ:=f}
 obtain⟨g2,a1,a2,a3,a4,a5,a6⟩:=YY (g:=gb) (fr:=c.fr) (kp:=la.BA) (λt i hi=>by
  unfold rnm at hi;split at hi
  .rename_i j hk ha;injection hi with hi
   subst hi;obtain⟨k1,k2⟩:=h.fr t _ ha;exact⟨k1,by show g1.μ j=f1 t;rw[hμ j k1,<-k2,hφ t (OB hk)]⟩
  .cases hi) hv
 have hn:gb.n=c.nx:=h.n;rw[hn]at a4 a5 a6;have hle2:Le {g with φ:=f} g2:=⟨by rw[a3,a2];exact hle,a1.n,λi hi=>by rw[a1.μ i hi];exact hμ i hi,a1.φ⟩
 refine⟨g2,a2,a1.φ,⟨hle2.ext,hle2.n,hle2.μ⟩,a4,by rw[a3,a2];exact h.le.trans hle,by rw[a3,a2];exact hst,by show Hk _ _ _ _ _;rw[a3,a2];exact hH,a6,λy hy=>⟨Nat.lt_of_lt_of_le (h.hs y hy).1 hle2.n,by rw[hle2.μ _ (h.hs y hy).1];exact(h.hs y hy).2⟩,λt ht=>by rw[a1.φ];exact hφ t ht,λi a hi=>?_⟩;rcases Zz hi with hi|hi
 .exact a5 i a hi
 .obtain⟨h1,h2⟩:=VH hi;rw[hφ i (OB h2)];have:=(h.fr i a h1)
  exact AR.mono (g:={g with φ:=f}) hle2 (by cases a<;>exact this)
end
end
section
section
variable {P:Program} {ops:Array Oper} {R:List PanicEntry->World->Prop} {V:Act->World->Prop} {S S':World->Prop}
theorem Afi(h:∀w,S' w->S w):∀(n:Nat)(l:Array Bool)(a:Act)(w:World),WB P ops R V S' n l a w->WB P ops R V S n l a w
 |0,_,_,_,r=>r
 |n+1,_,_,_,r=>⟨r.1,λi hi=>(r.2 i hi).mono λa' w' r'=>⟨h _ r'.1,Afi h n _ a' w' r'.2⟩⟩
theorem Ao5{E:List Nat}{w1:World}(h:∀w,S' w->S w):∀(n:Nat)(l:Array Bool)(a:Act)(w:World),XB P ops R V S' E w1 n l a w->XB P ops R V S E w1 n l a w
 |0,_,_,_,r=>r
 |n+1,_,_,_,r=>⟨r.1,λi hi=>(r.2 i hi).mono λa' w' r'=>by
  by_cases hE:E.contains i=true
  .rw[if_pos hE]at r' ⊢;exact⟨h _ r'.1,Afi h n _ a' w' r'.2⟩
  .rw[if_neg hE]at r' ⊢;exact⟨r'.1,Ao5 h n _ a' w' r'.2⟩⟩
theorem Ajv{R:Qy->World->Prop}{fn:FK}{N:Nat}{k:List Item}{E:List Nat}{n:Nat}{l:Array Bool}{f:Fr}{w:World}(h:∀w,S' w->S w)(r:WE P fn N ops k R S' E n l f w):WE P fn N ops k R S E n l f w:=λa ha=>Ao5 h _ _ _ _ (r a ha)
theorem A4s{R:Qy->World->Prop}{fn:FK}{N:Nat}{k:List Item}{n:Nat}{l:Array Bool}{f:Fr}{w:World}(h:∀w,S' w->S w)(r:WG P fn N ops k R S' n l f w):WG P fn N ops k R S n l f w:=λa ha=>Afi h _ _ _ _ (r a ha)
end
section
variable {Y:Sys}
variable {g g':B3}
theorem Sx.le(h:Le g g'){w:World}(s:Sx g' w):Sx g w:=⟨let e:=h.ext.trans s.ext;⟨e.os,e.tape,e.output,e.size,λ_ hb=>hb,e.BA⟩⟩
structure Y1(D:Bh)(g:B3)(w:World):Prop where
 sx:Sx g w
 kp:∀p∈D,w.heap[p.1]?=some p.2
variable {D:Bh}
theorem Y1.le(h:Le g g'){w:World}(s:Y1 D g' w):Y1 D g w:=⟨s.sx.le h,s.kp⟩
variable {g0:B3} {T AH A:Bh} {c:Cf Y} {f:Fr}
theorem RG.shd(h:RG g0 (D++T) c f g AH A):Y1 D g g.w:=⟨Sx.refl g,λp hp=>(h.st.own p (List.mem_append_right _ (List.mem_append_right _ (List.mem_append_left _ hp)))).1⟩
theorem RG.Ayq(hle:Le g g')(h:RG g0 (D++T) c f g' AH A):Y1 D g g'.w:=h.shd.le hle
theorem GC.more{X:TF Y}{R:List PanicEntry->World->Prop}(h:GC g0 T X R):GC g0 (D++T) X R:=λv w' I' AH' H' t l u h1 h2=>h v w' I' AH' H' t l u h1 (DD h2)
def rdH(hd:List (Nat×C6 Y))(c:Cf Y):Op->Option (TypeId×Operand×Nat×Nat×List (AV Y))
 | .load t x=>match Ey c x with
  |some (.adr i o)=>match HG hd i with
   |some (.blk cs)=>some (t,x,i,o,cs)
   |_=>none
  |_=>none
 |_=>none
theorem Aus{hid:List (Nat×C6 Y)}{op:Op}{t:TypeId}{x:Operand}{i o:Nat}{cs:List (AV Y)}(h:rdH hid c op=some (t,x,i,o,cs)):op=.load t x/\Ey c x=some (.adr i o)/\HG hid i=some (.blk cs):=by
 unfold rdH at h;split at h
 .split at h
  .split at h
   .rename_i _ _ _ _ h1 _ _ h2;cases h;exact⟨rfl,h1,h2⟩
   .cases h
  .cases h
 .cases h
def MU(c:Cf Y):Op->Bool
 | .move _ | .assign _ | .pick _ _ _ | .nilCheck _ | .fieldAddr _ _ _ | .indexAddr _ _ _ | .binOp _ _ _ _ _ | .unOp _ _ _ | .convert _ _ _ | .extract _ _ | .index _ _ _ | .field _ _ _ | .build _ _ | .makeInterface _ _=>true
 | .load _ x=>match Ey c x with
  |some (.del _ _ _)|some (.fbx _ _ _)=>true
  |_=>false
 | .call ⟨.builtin .len,_,_⟩ | .call ⟨.builtin .min,_,_⟩ | .call ⟨.builtin .max,_,_⟩=>true
 |_=>false
def A26:Op->Bool
 | .load _ _=>true
 |_=>false
def Awe(E:Env Y)(o:Op):Bool:=match pfC E o with
 |some _=>false
 |none=>match o with
  | .move _ | .assign _ | .pick _ _ _ | .nilCheck _ | .fieldAddr _ _ _ | .indexAddr _ _ _ | .binOp _ _ _ _ _ | .unOp _ _ _ | .convert _ _ _ | .extract _ _ | .index _ _ _ | .field _ _ _ | .build _ _ | .makeInterface _ _ | .load _ _=>false
  | .call ⟨.builtin .len,_,_⟩ | .call ⟨.builtin .min,_,_⟩ | .call ⟨.builtin .max,_,_⟩=>false
  |_=>true
def prz(c:Cf Y):Op->Cf Y
 | .build t ps=>Ag6 c t ps
 | .makeInterface _ x=>OF c x
 |_=>c
theorem Alp(h:RG g0 T c f g AH A)(o:Op):∃g' A',g'.w=g.w/\Le g g'/\RG g0 T (prz c o) f g' AH A':=by
 unfold prz;split
 .exact Ab9 h _ _
 .exact J6 h _
 .exact⟨g,A,rfl,Le.refl _,h⟩
def okB(ops:Array Oper)(l:Array Bool)(ef:List Nat)(i:Nat):Bool:=Region.noSelect ops&&Region.free .any ops l i&&(Region.ready .any ops l).contains i&&!(ef.contains i)
def unl(l:Array Bool)(ef:List Nat):List Nat:=ef.filter λe=>!(l.getD e true)
def Avo(ops:Array Oper)(l:Array Bool)(ef:List Nat)(i:Nat):Bool:=Akp .any ops l (unl l ef) i&&A0b l ef (unl l ef)
def grd(ops:Array Oper)(o:Oper)(c:Cf Y)(k:Bool->Cf Y->Prop):Prop:=match o.guard with
 |none=>k true c
 |some (j,b)=>match (ops[j]?).bind (·.dst) with
  |some d=>match Aq4 (Hu c.fr d) with
   |true=>k false c
   |false=>match (Hu c.fr d).bind asB with
    |some (.kn t)=>k (t==b) c
    |some (.pr p _)=>(p->k (true==b) (c.set d (.val (.bool true))))/\(¬p->k (false==b) (c.set d (.val (.bool false))))
    |none=>False
  |none=>False
theorem Z4(h:RG g0 T c f g AH A){ops:Array Oper}{o:Oper}{k:Bool->Cf Y->Prop}(hk:grd ops o c k):∃t c',k t c'/\RG g0 T c' f g AH A/\Region.wanted o (yl ops f)=t:=by
 unfold grd at hk;split at hk
 .rename_i hg;exact⟨true,c,hk,h,by simp [Region.wanted,hg]⟩
 .rename_i j b hg;split at hk
  .rename_i d hj;have bd:∀{p:BV},(Hu c.fr d).bind asB=some p->f d=.bool p.val:=λ{p}hp=>by
    cases hz:Hu c.fr d with
    |none=>rw[hz]at hp;cases hp
    |some a=>rw[hz]at hp;exact Nx hp (h.fr d a hz)
   have wd:∀{t:Bool},f d=.bool t->Region.wanted o (yl ops f)=(t==b):=λ{t}ht=>by
    have hy:yl ops f j=some t:=by unfold yl;rw[hj];simp only[ht]
    simp [Region.wanted,hg,hy]
   split at hk
   .rename_i hu;exact⟨false,c,hk,h,XC hg hj (Ags hu λa ha=>h.fr d a ha)⟩
   split at hk
   .rename_i t ht;exact⟨_,c,hk,h,wd (bd ht)⟩
   .rename_i p dp ht;have hv:=bd ht;by_cases hp:p
    .have hv:f d=.bool true:=by rw[hv];show Value.bool (@decide p dp)=_;rw[@decide_eq_true p dp hp]
     exact⟨_,_,hk.1 hp,h.cons (a:=.val (.bool true)) hv,wd hv⟩
    .have hv:f d=.bool false:=by rw[hv];show Value.bool (@decide p dp)=_;rw[@decide_eq_false p dp hp]
     exact⟨_,_,hk.2 hp,h.cons (a:=.val (.bool false)) hv,wd hv⟩
   .exact hk.elim
  .exact hk.elim
def Alq(E:Env Y)(hid:List (Nat×C6 Y))(ops:Array Oper)(l:Array Bool)(ef:List Nat)(c:Cf Y):List Nat->Option Nat
 | []=>none
 |i::rs=>match ops[i]? with
  |some o=>match okB ops l ef i&&(MU c o.op ||(rdH hid c o.op).isSome ||(pfC E o.op).isSome ||(A26 o.op&&Avo ops l ef i)) with
   |true=>some i
   |false=>Alq E hid ops l ef c rs
  |none=>Alq E hid ops l ef c rs
def Aw8(p:Nat->Prop):List Nat->Prop
 | []=>True
 | [i]=>p i
 |i::l=>p i/\Aw8 p l
theorem Ahg{p:Nat->Prop}:∀{l:List Nat},Aw8 p l->∀i∈l,p i
 | [],_,i,hi=>by cases hi
 | [j],h,i,hi=>by simp at hi;subst hi;exact h
 |j::k::l,h,i,hi=>by
  rcases List.mem_cons.1 hi with rfl|hi
  .exact h.1
  .exact Ahg h.2 i hi
def drw(E:Env Y)(hid:List (Nat×C6 Y))(ops:Array Oper)(ef:List Nat)(k:Cf Y->Prop):Nat->Array Bool->Cf Y->Prop
 |n,l,c=>match Region.ready .any ops l with
  | []=>k c
  |r::rs=>match n with
   |0=>False
   |n+1=>match Alq E hid ops l ef c (r::rs) with
    |some i=>match ops[i]? with
     |some o=>match o.dst with
      |some d=>Fu (okB ops l ef i&&Nat.blt d E.N) (grd ops o c λt c=>
        let K:AV Y->Cf Y->Prop:=λa c'=>c'.put E.N o.dst a λc''=>drw E hid ops ef k n (l.setIfInBounds i true) c''
        match t with
        |false=>K (.val undef) c
        |true=>match MU c o.op with
         |true=>vop (prz c o.op) o.op K
         |false=>match rdH hid c o.op with
         |some (t,_,_,p,cs)=>Tj t cs p λa=>K a c
         |none=>match pfC E o.op with
          |some r=>pcX c r K
          |none=>match o.op with
           | .load ty x=>match Ey c x with
            |some a=>Fu (Avo ops l ef i) (Aa6 c ty a λa c=>rdX (Uv c ty a) ty a λb=>K b (Uv c ty a))
            |none=>False
           |_=>False)
      |none=>False
     |none=>False
    |none=>Aw8 (λi=>match ops[i]? with
      |some o=>match ef.contains i with
       |true=>grd ops o c λt c=>match t with
        |true=>xop E {o with guard:=none} c λc''=>drw E hid ops ef k n (l.setIfInBounds i true) c''
        |false=>c.put E.N o.dst (.val undef) λc''=>drw E hid ops ef k n (l.setIfInBounds i true) c''
       |false=>grd ops o c λt c=>match t with
        |false=>c.put E.N o.dst (.val undef) λc''=>drw E hid ops ef k n (l.setIfInBounds i true) c''
        |true=>match o.op with
         | .load ty x=>match Ey c x with
           |some a=>Aa6 c ty a λa c=>rdX (Uv c ty a) ty a λb=>(Uv c ty a).put E.N o.dst b λc''=>drw E hid ops ef k n (l.setIfInBounds i true) c''
           |none=>False
         |_=>False
      |none=>False) (r::rs)
theorem Awy{E:Env Y}{fn:FK}{gh:B3}{hid:List (Nat×C6 Y)}(hD:Fv gh hid D){R:Qy->World->Prop}(hR:GC g0 (D++T) E.X (fn.at R)){ops:Array Oper}{ef:List Nat}{kk:Cf Y->Prop}{k:List Item}:∀(n:Nat){l:Array Bool}{c:Cf Y}{f:Fr}{g:B3}{AH A:Bh},Le gh g->RG g0 (D++T) c f g AH A->drw E hid ops ef kk n l c->(∀c' f' g' AH' A',Le g g'->RG g0 (D++T) c' f' g' AH' A'->kk c'->WT Y.P fn E.N k R f' g'.w)->WE Y.P fn E.N ops k R (Y1 D g) ef n l f g.w:=by
 intro n;induction n with
 |zero=>
  intro l c f g AH A hgh h hx next;unfold drw at hx;split at hx
  .rename_i hr;exact Anv hr (next c f g AH A (Le.refl _) h hx)
  .exact hx.elim
 |succ n ih=>
  intro l c f g AH A hgh h hx next;have wd:∀{o:Oper}{t:Bool},Region.wanted o (yl ops f)=t->True:=λ_=>trivial;have again:∀{c':Cf Y}{f':Fr}{g':B3}{AH' A':Bh}{l':Array Bool},Le g g'->RG g0 (D++T) c' f' g' AH' A'->drw E hid ops ef kk n l' c'->WE Y.P fn E.N ops k R (Y1 D g') ef n l' f' g'.w:=λhle hr hd=>ih (hgh.trans hle) hr hd λc2 f2 g2 AH2 A2 hle2 hr2 hk2=>next c2 f2 g2 AH2 A2 (hle.trans hle2) hr2 hk2;unfold drw at hx;split at hx
  .rename_i hr;exact Anv hr (next c f g AH A (Le.refl _) h hx)
  .rename_i r rs hr;simp only at hx;split at hx
   .rename_i i hi;split at hx
    .rename_i o ho;split at hx
     .rename_i d hd;obtain⟨hb,hx⟩:=AM hx;simp only[Bool.and_eq_true]at hb;obtain⟨t,c1,hx,h1,hw⟩:=Z4 h hx;have lay:∀{c2:Cf Y}{g2:B3}{A2:Bh}{a:AV Y}{v:Value},g2.w=g.w->Le g g2->RG g0 (D++T) c2 f g2 AH A2->AR g2 a v->(c2.put E.N o.dst a λc''=>drw E hid ops ef kk n (l.setIfInBounds i true) c'')->
        (∀w,Y1 D g2 w->WL Y.P E.N ops (λ_ _=>False) true (λf' w'=>f'=Go.X.put E.N f o.dst v/\w'=w) [o] f w)->WE Y.P fn E.N ops k R (Y1 D g) ef (n+1) l f g.w:=λ{c2 g2 A2 a v}hw2 hle hr2 ha hp hrun=>by
       obtain⟨c3,g3,k1,k2,k3,k4,k5⟩:=hr2.put ha hp
       refine Ajv (S':=Y1 D g2) (λw hs=>hs.le hle) ?_
       rw[<-hw2]
       refine Mj ho hd hb.2 hb.1 rfl (by have:=hr2.shd;exact this) hrun ?_
       have:=again (hle.trans k4) k5 k1
       rw[k2]at this
       exact Ajv (λw hs=>hs.le k4) this
      split at hx
      .exact lay (a:=.val undef) (v:=undef) rfl (Le.refl _) h1 rfl hx λw _=>by simp [WL,hw]
      .obtain⟨dst,op,ty,pos,af,gd⟩:=o;have run:∀{v:Value}{w:World},KC Y.P f op ty v w->WL Y.P E.N ops (λ_ _=>False) true (λf' w'=>f'=Go.X.put E.N f dst v/\w'=w) [⟨dst,op,ty,pos,af,gd⟩] f w:=λhy=>by simp only[WL,hw,if_true];rw[hy dst pos af gd];exact⟨rfl,rfl⟩
       simp only at hx;split at hx
       .obtain⟨g2,A2,hw2,hle,hr2⟩:=Alp h1 op;obtain⟨v,a,c',g3,k1,m1,m2,k2,k3,k4⟩:=Adv (ty:=ty) hr2 hx;exact lay (m1.trans hw2) (hle.trans m2) k2 k3 k1 λw hs=>run (k4 w (hs.sx.le m2))
       .split at hx
        .rename_i t2 x2 i2 p2 cs2 hrd;obtain⟨e1,e2,e3⟩:=Aus hrd;have hx9:=hx;clear hx;have e1:op=_:=e1;subst e1;obtain⟨B1,B2,hpm,hin,hsr,_⟩:=hD.take e3;obtain⟨_,b2,h4,h5⟩:=h1.ev e2;obtain⟨v,a,k1,k2,k3⟩:=YX (ty:=ty) hx9 (hsr.mono hgh hin) h4 h5;exact lay rfl (Le.refl _) h1 k2 k1 λw hs=>run (k3 w λp hp=>hs.kp p (hpm.symm.mem_iff.1 (List.mem_append_left _ hp)))
        split at hx
        .rename_i r hr;obtain⟨v,a,c2,g2,k1,k2,k3,k4,k5,k6⟩:=Aed h1 hx;obtain⟨c3,g3,m1,m2,m3,m4,m5⟩:=k4.put k5 k1;obtain⟨at2,he⟩:=Aec hr;subst he;refine Aha ho hd hb.1 h.shd hw (λw hs=>.inr ⟨_,_,Tg r.2.1.can dst ty pos af gd,k6 w hs.sx⟩) ?_;have:=again (k3.trans m4) m5 m1;rw[m2,k2]at this;exact Ajv (λw hs=>hs.le (k3.trans m4)) this
        split at hx
        .split at hx
         .rename_i a ha;obtain⟨hm,hx⟩:=AM hx;simp only[Avo,Bool.and_eq_true]at hm;obtain⟨a,c0,g0',AH0,A0,hx,hw0,hle0,hr0,ha0⟩:=Pm h1 hx (h1.ev ha);obtain⟨g2,A2,hw2,hle,hr2⟩:=UE hr0 _ a;obtain⟨v,b,k1,k2,k3⟩:=Vj (ty:=ty) (k:=λb=>(Uv c0 _ a).put E.N dst b λc''=>drw E hid ops ef kk n (l.setIfInBounds i true) c'') hr2 hx (ha0.mono hle);replace hw2:=hw2.trans hw0;replace hle:=hle0.trans hle;obtain⟨c3,g3,m1,m2,m3,m4,m5⟩:=hr2.put k2 k1;refine Ajv (S':=Y1 D g2) (λw hs=>hs.le hle) ?_;rw[<-hw2];have hb1:=hb.1;simp only[okB,Bool.and_eq_true]at hb1;refine A0c (unl l ef) ho hd hb.2 (by simp only[Bool.and_eq_true];exact⟨⟨hb1,hm.1⟩,hm.2⟩) rfl (run k3) ?_;have:=again (hle.trans m4) m5 m1;rw[m2]at this;exact Ajv (λw hs=>hs.le m4) this
         .exact hx.elim
        .exact hx.elim
     .exact hx.elim
    .exact hx.elim
   .refine A0e hr (by simp) λi hi a ha=>?_;have hx:=Ahg hx i hi;split at hx
    .rename_i o ho;split at hx
     case h_2 hE=>
      obtain⟨t,c1,hx,h1,hw⟩:=Z4 h hx
      rw[hE]
      have fin:∀{c':Cf Y}{f':Fr}{g':B3}{AH' A':Bh},g'.w=g.w->Le g g'->RG g0 (D++T) c' f' g' AH' A'->drw E hid ops ef kk n (l.setIfInBounds i true) c'->WE Y.P fn E.N ops k R (Y1 D g) ef n (l.setIfInBounds i true) f' g.w:=λhw' hle hr' hd=>by have:=again hle hr' hd;rw[hw']at this;exact Ajv (λw hs=>hs.le hle) this
      refine Pn (K:=λf' w'=>w'=g.w/\WE Y.P fn E.N ops k R (Y1 D g) ef n (l.setIfInBounds i true) f' g.w) ha ho (λf' w' a' h1 h2=>⟨h2.1,by rw[h2.1];exact h2.2 a' h1⟩) ?_
      split at hx
      .obtain⟨c2,g2,k1,k2,k3,k4,k5⟩:=h1.put (a:=.val undef) (v:=undef) rfl hx
       exact Afs hw ⟨rfl,fin k2 k4 k5 k1⟩
      .obtain⟨dst,op,ty,pos,af,gd⟩:=o
       simp only at hx
       split at hx
       .split at hx
        .rename_i a2 ha2
         obtain⟨a3,c0,g0',AH0,A0,hx,hw0,hle0,hr0,ha0⟩:=Pm h1 hx (h1.ev ha2)
         obtain⟨g2,A2,hw2,hle,hr2⟩:=UE hr0 _ a3
         obtain⟨v,b,k1,k2,k3⟩:=Vj (ty:=ty) (k:=λb=>(Uv c0 _ a3).put E.N dst b λc''=>drw E hid ops ef kk n (l.setIfInBounds i true) c'') hr2 hx (ha0.mono hle)
         obtain⟨c3,g3,m1,m2,m3,m4,m5⟩:=hr2.put k2 k1
         rw[hw2,hw0]at k3
         simp only[WL,hw,if_true]
         rw[k3 dst pos af gd]
         exact⟨rfl,fin (m2.trans (hw2.trans hw0)) (hle0.trans (hle.trans m4)) m5 m1⟩
        .exact hx.elim
       .exact hx.elim
     rename_i hE;rw[hE];simp only[if_true];obtain⟨t,c1,hx,h1,hw⟩:=Z4 h hx;have fin:∀c' f' g' AH' A',Le g g'->RG g0 (D++T) c' f' g' AH' A'->drw E hid ops ef kk n (l.setIfInBounds i true) c'->Y1 D g g'.w/\WG Y.P fn E.N ops k R (Y1 D g) n (l.setIfInBounds i true) f' g'.w:=λc' f' g' AH' A' hle hr' hd=>⟨hr'.Ayq hle,A4s (λw hs=>hs.le hle) (ZD ef hr'.shd (again hle hr' hd))⟩
     refine Pn (K:=λf' w'=>Y1 D g w'/\WG Y.P fn E.N ops k R (Y1 D g) n (l.setIfInBounds i true) f' w') ha ho (λf' w' a' h1 h2=>⟨h2.1,h2.2 a' h1⟩) ?_;split at hx
     .have hwl:=Adr h1 rfl hx (ops:=ops) (R:=fn.at R) (K:=λf' w'=>Y1 D g w'/\WG Y.P fn E.N ops k R (Y1 D g) n (l.setIfInBounds i true) f' w') (os:=[]) hR fin;cases hg:o.guard with
      |none=>
       have:o={o with guard:=none}:=by rw[<-hg]
       rw[this];exact hwl
      |some q=>
       have he:o={o with guard:=some q}:=by rw[<-hg]
       rw[he]at hw ⊢;exact Ako hw hwl
     .obtain⟨c2,g2,k1,k2,k3,k4,k5⟩:=h1.put (a:=.val undef) (v:=undef) rfl hx;refine Afs hw ?_;have:=fin c2 _ g2 _ _ k4 k5 k1;rw[k2]at this;exact this
    .exact hx.elim
def hdL:List (Nat×List Nat)->Nat->List Nat
 | [],_=>[]
 |p::l,i=>if p.1=i then p.2 else hdL l i
def hdI(c:Cf Y)(ts:List Nat)(i:Nat):Bool:=ts.any λt=>match Hu c.fr t with
 |some (.adr j _)=>Nat.beq j i
 |_=>false
def spS(p:Nat->Bool):List (Nat×C6 Y)->List (Nat×C6 Y)×List (Nat×C6 Y)
 | []=>([],[])
 |s::l=>match p s.1 with
  |true=>(s::(spS p l).1,(spS p l).2)
  |false=>((spS p l).1,s::(spS p l).2)
theorem Ak7{g:B3}{p:Nat->Bool}:∀{l:List (Nat×C6 Y)}{A:Bh},Fv g l A->∃A1 A2,A.Perm (A1++A2)/\Fv g (spS p l).1 A1/\Fv g (spS p l).2 A2
 | [],_,h=>⟨[],[],by rw[show _=[] from h];exact List.Perm.refl _,rfl,rfl⟩
 |s::l,A,⟨B1,B2,h1,h2,h3,h4⟩=>by
  obtain⟨C1,C2,k1,k2,k3⟩:=Ak7 (p:=p) h4;subst h1;unfold spS;cases p s.1 with
  |true=>exact⟨B1++C1,C2,by rw[List.append_assoc];exact k1.append_left B1,⟨B1,C1,rfl,h2,h3,k2⟩,k3⟩
  |false=>exact⟨C1,B1++C2,(k1.append_left B1).trans (List.perm_append_comm_assoc _ _ _),k2,⟨B1,C2,rfl,h2,h3,k3⟩⟩
def drX(E:Env Y)(id:Nat)(ops:Array Oper)(c:Cf Y)(k:Cf Y->Prop):Prop:=
 Fu (Y.P.follows .mixedOrders) (match hdL E.hd id with
  | []=>drw E [] ops ((List.range ops.size).filter λi=>match ops[i]? with |some o=>Awe E o.op |none=>false) k ops.size (Array.replicate ops.size false) c
  |t::ts=>cls c λc=>drw E (spS (hdI c (t::ts)) c.sg).1 ops ((List.range ops.size).filter λi=>match ops[i]? with |some o=>Awe E o.op |none=>false) (λc'=>cls c' λc'=>k {c' with sg:=(spS (hdI c (t::ts)) c.sg).1++c'.sg}) ops.size (Array.replicate ops.size false) {c with sg:=(spS (hdI c (t::ts)) c.sg).2})
theorem Awz{E:Env Y}{fn:FK}{R:Qy->World->Prop}(hR:GC g0 T E.X (fn.at R))(h:RG g0 T c f g AH A){id:Nat}{ops:Array Oper}{kk:Cf Y->Prop}{k:List Item}(hx:drX E id ops c kk)(next:∀c' f' g' AH' A',Le g g'->RG g0 T c' f' g' AH' A'->kk c'->WT Y.P fn E.N k R f' g'.w):WT Y.P fn E.N (.code (.region id ops true)::k) R f g.w:=by
 obtain⟨hm,hx⟩:=AM hx;have dr:∀{g:B3}{c:Cf Y}{AH A:Bh}{D:Bh}{hid:List (Nat×C6 Y)}{kk:Cf Y->Prop},Fv g hid D->RG g0 (D++T) c f g AH A->drw E hid ops ((List.range ops.size).filter λi=>match ops[i]? with|some o=>Awe E o.op|none=>false) kk ops.size (Array.replicate ops.size false) c->
   (∀c' f' g' AH' A',Le g g'->RG g0 (D++T) c' f' g' AH' A'->kk c'->WT Y.P fn E.N k R f' g'.w)->WT Y.P fn E.N (.code (.region id ops true)::k) R f g.w:=λ{g c AH A D hid kk}hD h hx next=>by
  let g1:B3:={g with w:={g.w with drawn:=g.w.drawn+1}}
  have he:Ext g.I g.w g.I g1.w:=(h.st.drew _).1
  have hle:Le g g1:=⟨he,Nat.le_refl _,λ_ _=>rfl,rfl⟩
  have h1:RG g0 (D++T) c f g1 AH A:=⟨h.n,h.le.trans he,(h.st.drew _).2,h.hr.mono hle,h.sg.mono hle,h.hs.mono hle,hle.pt h.pt,λi a hi=>(h.fr i a hi).mono hle⟩
  exact Afq (Y1 D g1) hm rfl rfl (ZD _ h1.shd (Awy hD hR.more _ hle h1 hx λc' f' g' AH' A' hl hr hk=>next c' f' g' AH' A' (hle.trans hl) hr hk))
 split at hx
 .exact dr (D:=[]) (hid:=[]) rfl h hx next
 .rename_i t ts _;obtain⟨c1,g1,AH1,A1,hq,hw1,hle1,h1,_,hop1⟩:=D0 h hx;rw[<-hw1];obtain⟨D,A2,hp,hD,hA2⟩:=Ak7 (p:=hdI c1 (t::ts)) h1.sg;have hr1:=h1.hr;rw[hop1]at hr1;have h2:RG g0 (D++T) {c1 with sg:=(spS (hdI c1 (t::ts)) c1.sg).2} f g1 AH1 A2:=⟨h1.n,h1.le,h1.st.perm ?_,?_,hA2,h1.hs,h1.pt,h1.fr⟩
  .refine dr hD h2 hq λc' f' g' AH' A' hle hr hx=>?_;obtain⟨c3,g3,AH3,A3,hq3,hw3,hle3,h3,_,hop3⟩:=D0 hr hx;rw[<-hw3];have hr3:=h3.hr;rw[hop3]at hr3;refine next {c3 with sg:=(spS (hdI c1 (t::ts)) c1.sg).1++c3.sg} f' g3 AH3 (D++A3) (hle1.trans (hle.trans hle3)) ⟨h3.n,h3.le,h3.st.perm ?_,?_,?_,h3.hs,h3.pt,h3.fr⟩ hq3
   .refine List.Perm.append_left _ ?_;rw[List.append_assoc];exact List.perm_append_comm_assoc _ _ _
   .show HR g3 c3.H _ AH3 c3.op;rw[hop3];exact hr3
   .exact Fv.app (hD.mono (hle.trans hle3)) h3.sg
  .refine List.Perm.append_left _ ?_;refine(hp.append_right T).trans ?_;rw[List.append_assoc];exact List.perm_append_comm_assoc _ _ _
  .show HR g1 c1.H _ AH1 c1.op;rw[hop1];exact hr1
end
end
section
section
variable {Y:Sys}
structure Ks(Y:Sys) where
 nx:Cf Y->Prop
 ex:List (Nat×(Cf Y->Prop))
 rt:Cf Y->Prop
def Z0:List (Nat×(Cf Y->Prop))->Nat->Option (Cf Y->Prop)
 | [],_=>none
 |p::l,i=>if p.1=i then some p.2 else Z0 l i
def lkA:List (Nat×LA)->Nat->Option LA
 | [],_=>none
 |p::l,i=>if p.1=i then some p.2 else lkA l i
def Av9:Code->Nat
 | .seq a _=>Av9 a
 | .region id _ _=>id
 | .block _ b=>Av9 b
 |_=>0
def jnK(E:Env Y):Operand->Option LA
 | .tmp t=>lkA E.jn t
 |_=>none
def IC(c:Cf Y):List (Nat×Sh)->Cf Y
 | []=>c
 |(t,.one (.dat (.sl _)))::l=>IC (OF c (.tmp t)) l
 |_::l=>IC c l
theorem Si{g0:B3}{T AH:Bh}{f:Fr}:∀(l:List (Nat×Sh)){g:B3}{A:Bh}{c:Cf Y},RG g0 T c f g AH A->∃g' A',g'.w=g.w/\Le g g'/\RG g0 T (IC c l) f g' AH A'
 | [],g,A,c,h=>⟨g,A,rfl,Le.refl _,h⟩
 |p::l,g,A,c,h=>by
  unfold IC;split
  .exact⟨g,A,rfl,Le.refl _,h⟩
  .rename_i t e l' heq;cases heq;obtain⟨g1,A1,h1,h2,h3⟩:=J6 h (.tmp t);obtain⟨g2,A2,h4,h5,h6⟩:=Si l h3;exact⟨g2,A2,h4.trans h1,h2.trans h5,h6⟩
  .rename_i heq;cases heq;exact Si l h
def NQ(l m:List Nat):Bool:=l.all λi=>Lt i m
theorem Z3{i:Nat}:∀{l:List Nat},Lt i l=true↔i∈l
 | []=>by simp [Lt]
 |j::l=>by simp [Lt,Z3 (l:=l)]
theorem Pj{l m:List Nat}(h:NQ l m=true){t:Nat}(ht:Lt t l=true):Lt t m=true:=by have:=List.all_eq_true.1 h t (Z3.1 ht);exact this
def Axa(la:LA)(c:Cf Y)(K:VT Y la.vars->HH Y->Prop):Prop:=match Aeu (IC c la.vars).fr la.vars (IC c la.vars).sg,(IC c la.vars).op with
 |some r,none=>K r.1 (IC c la.vars).H
 |_,_=>False
variable {la:LA} {g0 g:B3} {T AH A:Bh} {c:Cf Y} {f:Fr}
theorem Aru(h:RG g0 T c f g AH A){K:VT Y la.vars->HH Y->Prop}(hk:Axa la c K):∃g1 x H A1,g1.w=g.w/\Le g g1/\K x H/\VTR g1.I g1.w f la.vars x A1/\St g1.I g1.w (AH++(A1++T))/\Hk (P2 Y) g1.I g1.w H AH:=by
 obtain⟨g1,A',h1,h2,h3⟩:=Si la.vars h;unfold Axa at hk;split at hk
 .rename_i r hr hop;obtain⟨A1,A2,h4,h5,h6⟩:=Z5 h3.fr hr h3.sg;have hH:=h3.hr;rw[hop]at hH;refine⟨g1,r.1,_,A1,h1,h2,hk,h5,?_,hH⟩;have hst:=h3.st.perm ((h4.append_right T).append_left AH);rw[List.append_assoc]at hst;have:St g1.I g1.w ((AH++A1)++(A2++T)):=by simpa [List.append_assoc] using hst
  simpa [List.append_assoc] using DD this
 .exact hk.elim
def cnv(la:LA)(c:Cf Y)(K:VT Y la.vars->HH Y->Prop):Prop:=cls c λc=>Axa la c K
theorem An8(h:RG g0 T c f g AH A){K:VT Y la.vars->HH Y->Prop}(hk:cnv la c K):∃g1 x H AH1 A1,g1.w=g.w/\Le g g1/\K x H/\VTR g1.I g1.w f la.vars x A1/\St g1.I g1.w (AH1++(A1++T))/\Hk (P2 Y) g1.I g1.w H AH1:=by obtain⟨c1,g1,AH1,A1,hk,hw,hle,hr,_⟩:=D0 h hk;obtain⟨g2,x,H,A2,h1,h2,h3⟩:=Aru hr hk;exact⟨g2,x,H,AH1,A2,h1.trans hw,hle.trans h2,h3⟩
def wr(pt:List Nat)(q:Cf Y->Prop):Cf Y->Prop:=λc=>Fu (NQ pt c.pt) (q {c with pt:=pt})
def wrE(pt:List Nat):List (Nat×(Cf Y->Prop))->List (Nat×(Cf Y->Prop))
 | []=>[]
 |p::l=>(p.1,wr pt p.2)::wrE pt l
theorem AR.Zf(φ:Fr){a:AV Y}{v:Value}(h:AR g a v):AR {g with φ:=φ} a v:=by cases a<;>exact h
theorem SR.Zf(φ:Fr){i:Nat}{s:C6 Y}(h:SR g i s A):SR {g with φ:=φ} i s A:=by
 cases s with
 |blk cs=>obtain⟨b,arr,e,h1,h2,h3⟩:=h;exact⟨b,arr,e,h1,h2,h3.mono λ_ _ r=>⟨r.1.Zf φ,r.2⟩⟩
 |sl t xs|mp k e m=>exact h
 |tp l=>obtain⟨h1,vs,h2,h3⟩:=h;exact⟨h1,vs,h2,h3.mono λ_ _ r=>r.Zf φ⟩
 |ag l=>obtain⟨h1,vs,h2,h3⟩:=h;exact⟨h1,vs,h2,h3.mono λ_ _ r=>⟨r.1.Zf φ,r.2⟩⟩
 |clo q l m=>obtain⟨h1,vs,us,h2,h3,h4⟩:=h;exact⟨h1,vs,us,h2,h3.mono λ_ _ r=>r.Zf φ,h4.mono λ_ _ r=>r.Zf φ⟩
theorem Fv.Zf(φ:Fr):∀{l:List (Nat×C6 Y)}{A:Bh},Fv g l A->Fv {g with φ:=φ} l A
 | [],_,h=>h
 |_::_,_,⟨A1,A2,h1,h2,h3,h4⟩=>⟨A1,A2,h1,h2,h3.Zf φ,h4.Zf φ⟩
theorem RG.Zf{φ:Fr}{pt:List Nat}(h:RG g0 T c f g AH A)(hp:∀t,Lt t pt=true->f t=φ t):RG g0 T {c with pt:=pt} f {g with φ:=φ} AH A:=by
 refine⟨h.n,h.le,h.st,?_,h.sg.Zf φ,h.hs,hp,λi a hi=>(h.fr i a hi).Zf φ⟩;have:=h.hr;show HR _ _ _ _ c.op;cases ho:c.op with
 |none|some o=>rw[ho]at this;exact this
def TD(E:Env Y):Code->Cf Y->Ks Y->Prop
 |.skip,c,ks|.label _,c,ks=>ks.nx c
 | .seq a b,c,ks=>TD E a c {ks with nx:=λc'=>TD E b c' ks}
 | .region id ops d,c,ks=>match d with
  |false=>UJ E ops ops.toList c ks.nx
  |true=>drX E id ops c ks.nx
 | .cond x a b,c,ks=>match (Ey c x).bind asB with
  |some (.kn true)=>TD E a c ks
  |some (.kn false)=>TD E b c ks
  |some (.pr p _)=>match jnK E x with
   |none=>(p->TD E a (kno c x true) ks)/\(¬p->TD E b (kno c x false) ks)
   |some la=>cls c λc=>∃M:VT Y la.vars->HH Y->Prop,(∀x H,M x H->ks.nx {hdC c la x H with pt:=c.pt})/\
    (p->TD E a {c with pt:=la.BA++c.pt} {nx:=λc'=>Fu (NQ (la.BA++c.pt) c'.pt) (cnv la c' M),ex:=wrE c.pt ks.ex,rt:=ks.rt})/\
    (¬p->TD E b {c with pt:=la.BA++c.pt} {nx:=λc'=>Fu (NQ (la.BA++c.pt) c'.pt) (cnv la c' M),ex:=wrE c.pt ks.ex,rt:=ks.rt})
  |none=>False
 | .block id b,c,ks=>TD E b c {ks with ex:=(id,ks.nx)::ks.ex}
 | .exit id,c,ks=>match Z0 ks.ex id with
  |some q=>q c
  |none=>False
 | .ret,c,ks=>ks.rt c
 | .scope b,c,ks=>TD E b c ks
 | .loop b,c,ks=>cls c λc=>match lkA E.lp (Av9 b) with
  |some la=>match la.heap with
   |true=>∃V:Nat->VT Y la.vars->HH Y->Prop,(∃n,cnv la c (V n))/\∀n x H,V n x H->TD E b (hdC c la x H) {nx:=λc'=>Fu (NQ (la.BA++c.pt) c'.pt) (∃m,m<n/\cnv la c' (V m)),ex:=wrE c.pt ks.ex,rt:=ks.rt}
   |false=>∃V:Nat->VT Y la.vars->Prop,(∃n,cnv la c (λx H=>H=c.H/\V n x))/\∀n x,V n x->TD E b (hdC c la x c.H) {nx:=λc'=>Fu (NQ (la.BA++c.pt) c'.pt) (∃m,m<n/\cnv la c' (λx H=>H=c.H/\V m x)),ex:=wrE c.pt ks.ex,rt:=ks.rt}
  |none=>False
 |_,_,_=>False
structure Aj5(Y:Sys)(fn:FK)(N:Nat)(g0:B3)(T:Bh)(R:Qy->World->Prop)(φ:Fr)(gb:B3)(ks:Ks Y)(k:List Item):Prop where
 nx:∀c f g AH A,g.φ=φ->Lx gb g->RG g0 T c f g AH A->ks.nx c->WT Y.P fn N k R f g.w
 ex:∀id q,Z0 ks.ex id=some q->∃k',exitTo id k=some k'/\∀c f g AH A,g.φ=φ->Lx gb g->RG g0 T c f g AH A->q c->WT Y.P fn N k' R f g.w
 rt:∀c f g AH A k',Lx gb g->RG g0 T c f g AH A->ks.rt c->WT Y.P fn N (.code .ret::k') R f g.w
theorem Amv{pt:List Nat}{id:Nat}{q:Cf Y->Prop}:∀{l:List (Nat×(Cf Y->Prop))},Z0 (wrE pt l) id=some q->∃q',Z0 l id=some q'/\q=wr pt q'
 | [],h=>by simp [wrE,Z0]at h
 |p::l,h=>by
  simp only[wrE,Z0]at h;simp only[Z0];by_cases he:p.1=id
  .rw[if_pos he]at h ⊢;cases h;exact⟨_,rfl,rfl⟩
  .rw[if_neg he]at h ⊢;exact Amv h
theorem Aj5.inner{fn:FK}{N:Nat}{gb g1:B3}{R:Qy->World->Prop}{φ φ':Fr}{ks:Ks Y}{k k2:List Item}{pt:List Nat}{nx:Cf Y->Prop}(h:Aj5 Y fn N g0 T R φ gb ks k)(hb:Lx gb g1)(hpt:∀t,Lt t pt=true->φ' t=φ t)(hk:∀id,exitTo id k2=exitTo id k)(hnx:∀c f g AH A,g.φ=φ'->Lx g1 g->RG g0 T c f g AH A->nx c->WT Y.P fn N k2 R f g.w):Aj5 Y fn N g0 T R φ' g1 {nx:=nx,ex:=wrE pt ks.ex,rt:=ks.rt} k2:=by refine⟨hnx,λid q hq=>?_,λc f g AH A k' hl hr hx=>h.rt c f g AH A k' (hb.trans hl) hr hx⟩;obtain⟨q',h1,rfl⟩:=Amv hq;obtain⟨k',h2,h3⟩:=h.ex id q' h1;refine⟨k',by rw[hk];exact h2,λc f g AH A hφ hlx hr hx=>?_⟩;obtain⟨hs,hx⟩:=AM hx;exact h3 _ f {g with φ:=φ} AH A rfl (hb.trans ⟨hlx.ext,hlx.n,hlx.μ⟩) (hr.Zf λt ht=>by rw[hr.pt t (Pj hs ht),hφ,hpt t ht]) hx
theorem An9{g':B3}{AH' A':Bh}{c':Cf Y}{f':Fr}(h:RG g0 T c f g AH A)(hlx:Lx g g')(hφ:g'.φ=f)(hr:RG g0 T c' f' g' AH' A')(hpt:NQ (la.BA++c.pt) c'.pt=true){K:VT Y la.vars->HH Y->Prop}(hk:cnv la c' K):∃g2 x H AH2 A2,g2.w=g'.w/\g2.φ=f/\Lx g g2/\K x H/\RG g0 T (hdC c la x H) f' g2 AH2 A2:=by obtain⟨g1,x,H,AH1,A1,h1,h2,h3,h4,h5,h6⟩:=An8 hr hk;have hl:=hlx.trans h2.lx;obtain⟨g2,k1,k2,k3,k4⟩:=Ang h hl.ext hl.μ (λt ht=>by rw[hr.pt t (Pj hpt ht),hφ]) h4 h5 h6;exact⟨g2,x,H,AH1,A1,k1.trans h1,k2,k3,h3,k4⟩
theorem GB{E:Env Y}{fn:FK}{g0:B3}{T:Bh}{R:Qy->World->Prop}(hR:GC g0 T E.X (fn.at R)):∀(code:Code){ks:Ks Y}{k:List Item}{c:Cf Y}{f:Fr}{g gb:B3}{AH A:Bh},Aj5 Y fn E.N g0 T R g.φ gb ks k->Lx gb g->RG g0 T c f g AH A->TD E code c ks->WT Y.P fn E.N (.code code::k) R f g.w
 | .skip,ks,k,c,f,g,gb,AH,A,hk,hb,h,hx=>Ro (hk.nx c f g AH A rfl hb h hx)
 | .label _,ks,k,c,f,g,gb,AH,A,hk,hb,h,hx=>Aab (hk.nx c f g AH A rfl hb h hx)
 | .seq a b,ks,k,c,f,g,gb,AH,A,hk,hb,h,hx=>by refine D8 (GB hR a (gb:=gb) (ks:={ks with nx:=λc'=>TD E b c' ks}) ⟨λc' f' g' AH' A' hφ hlx hr hx'=>GB hR b (by rw[hφ];exact hk) hlx hr hx',λid q hq=>?_,hk.rt⟩ hb h hx);obtain⟨k',h1,h2⟩:=hk.ex id q hq;exact⟨k',h1,h2⟩
 | .region id ops d,ks,k,c,f,g,gb,AH,A,hk,hb,h,hx=>by
  cases d with
  |false=>exact CK (Rm hR _ h hx λc' f' g' AH' A' hle hr hx'=>hk.nx c' f' g' AH' A' hle.φ (hb.trans hle.lx) hr hx')
  |true=>exact Awz hR h hx λc' f' g' AH' A' hle hr hx'=>hk.nx c' f' g' AH' A' hle.φ (hb.trans hle.lx) hr hx'
 | .cond x a b,ks,k,c,f,g,gb,AH,A,hk,hb,h,hx=>by
  simp only[TD]at hx;have bd:∀{p:BV},(Ey c x).bind asB=some p->ev f x=.bool p.val:=λ{p}hp=>by
   cases hz:Ey c x with
   |none=>rw[hz]at hp;cases hp
   |some a=>rw[hz]at hp;exact Nx hp (h.ev hz)
  split at hx
  .rename_i hbb;exact Rn (bd hbb) (GB hR a hk hb h hx)
  .rename_i hbb;exact NZ (bd hbb) (GB hR b hk hb h hx)
  .rename_i p d hbb;have hv:=bd hbb;have way:(p->WT Y.P fn E.N (.code a::k) R f g.w)->(¬p->WT Y.P fn E.N (.code b::k) R f g.w)->WT Y.P fn E.N (.code (.cond x a b)::k) R f g.w:=λh1 h2=>@Aac _ _ _ _ _ _ _ _ _ _ p d hv h1 h2;have way':∀w,w=g.w->(p->WT Y.P fn E.N (.code a::k) R f w)->(¬p->WT Y.P fn E.N (.code b::k) R f w)->WT Y.P fn E.N (.code (.cond x a b)::k) R f g.w:=λw e=>by rw[e];exact way
   split at hx
   .exact way (λhp=>GB hR a hk hb (Z1 h (by rw[hv];exact congrArg _ (decide_eq_true hp))) (hx.1 hp)) (λhp=>GB hR b hk hb (Z1 h (by rw[hv];exact congrArg _ (decide_eq_false hp))) (hx.2 hp))
   .rename_i la hla;obtain⟨c,g1,AH,A,⟨M,h1,h2,h3⟩,hw,hle,h,_⟩:=D0 h hx;rw[<-hle.φ]at hk;replace hb:=hb.trans hle.lx;have way:=way' g1.w hw;have hin:RG g0 T {c with pt:=la.BA++c.pt} f {g1 with φ:=f} AH A:=h.Zf λt _=>rfl;have hlx:Lx g1 {g1 with φ:=f}:=⟨Ext.refl _ _,Nat.le_refl _,λ_ _=>rfl⟩
    have hks:Aj5 Y fn E.N g0 T R f {g1 with φ:=f} {nx:=λc'=>Fu (NQ (la.BA++c.pt) c'.pt) (cnv la c' M),ex:=wrE c.pt ks.ex,rt:=ks.rt} k:=hk.inner (hb.trans hlx) (λt ht=>h.pt t ht) (λ_=>rfl) λc' f' g1' AH' A' hφ hl hr hx'=>by obtain⟨hs,hx'⟩:=AM hx';obtain⟨g2,x,H,AH2,A2,k1,k2,k3,k4,k5⟩:=An9 h ⟨hl.ext,hl.n,hl.μ⟩ hφ hr hs hx';have:=hk.nx _ f' {g2 with φ:=g1.φ} AH2 A2 rfl (hb.trans ⟨k3.ext,k3.n,k3.μ⟩) (k5.Zf λt ht=>by rw[k5.pt t (Tz ht),k2];exact h.pt t ht) (h1 x H k4);rw[<-k1];exact this
    exact way (λhp=>GB hR a (g:={g1 with φ:=f}) hks (Lx.refl _) hin (h2 hp)) (λhp=>GB hR b (g:={g1 with φ:=f}) hks (Lx.refl _) hin (h3 hp))
  .exact hx.elim
 | .block id b,ks,k,c,f,g,gb,AH,A,hk,hb,h,hx=>by
  refine KE (GB hR b (gb:=gb) (ks:={ks with ex:=(id,ks.nx)::ks.ex}) ⟨λc' f' g' AH' A' hφ hlx hr hx'=>KD (hk.nx c' f' g' AH' A' hφ hlx hr hx'),λid' q hq=>?_,hk.rt⟩ hb h hx);simp only[Z0]at hq;by_cases he:id=id'
  .rw[if_pos he]at hq;cases hq;subst he;exact⟨k,by simp [exitTo],hk.nx⟩
  .rw[if_neg he]at hq;obtain⟨k',h1,h2⟩:=hk.ex id' q hq;exact⟨k',by simp [exitTo,he,h1],h2⟩
 | .exit id,ks,k,c,f,g,gb,AH,A,hk,hb,h,hx=>by
  simp only[TD]at hx;split at hx
  .rename_i q hq;obtain⟨k',h1,h2⟩:=hk.ex id q hq;exact U1 h1 (h2 c f g AH A rfl hb h hx)
  .exact hx.elim
 | .ret,ks,k,c,f,g,gb,AH,A,hk,hb,h,hx=>hk.rt c f g AH A k hb h hx
 | .loop b,ks,k,c,f,g,gb,AH,A,hk,hb,h0,hx=>by
  simp only[TD]at hx;obtain⟨c,g1,AH,A,hx,hw,hle,h,_⟩:=D0 h0 hx;rw[<-hle.φ]at hk;replace hb:=hb.trans hle.lx;rw[<-hw];have key:∀(la:LA)(V:Nat->VT Y la.vars->HH Y->Prop),(∃n,cnv la c (V n))->(∀n x H,V n x H->TD E b (hdC c la x H) {nx:=λc'=>Fu (NQ (la.BA++c.pt) c'.pt) (∃m,m<n/\cnv la c' (V m)),ex:=wrE c.pt ks.ex,rt:=ks.rt})->
    WT Y.P fn E.N (.code (.loop b)::k) R f g1.w:=λla V⟨n,h0⟩hstep=>by
   have hin:RG g0 T {c with pt:=la.BA++c.pt} f {g1 with φ:=f} AH A:=h.Zf λt _=>rfl
   have start:∃g2 x H AH2 A2,g2.w=g1.w/\g2.φ=f/\Lx g1 g2/\V n x H/\RG g0 T (hdC c la x H) f g2 AH2 A2:=by obtain⟨g5,x,H,AH1,A1,h1,h2,h3,h4,h5,h6⟩:=An8 h h0;obtain⟨g2,k1,k2,k3,k4⟩:=Ang h h2.ext h2.μ (λt ht=>rfl) h4 h5 h6;exact⟨g2,x,H,AH1,A1,k1.trans h1,k2,k3,h3,k4⟩
   refine Y8 (λn f' w'=>∃g2 x H AH2 A2,g2.w=w'/\g2.φ=f/\Lx g1 g2/\V n x H/\RG g0 T (hdC c la x H) f' g2 AH2 A2) n ?_ ?_
   .exact start
   .rintro n f' w' ⟨g2,x,H,AH2,A2,rfl,k2,k3,k4,k5⟩ ih
    have hks:Aj5 Y fn E.N g0 T R g2.φ g2 {nx:=λc'=>Fu (NQ (la.BA++c.pt) c'.pt) (∃m,m<n/\cnv la c' (V m)),ex:=wrE c.pt ks.ex,rt:=ks.rt} (.inLoop b::k):=by rw[k2];refine hk.inner (hb.trans k3) (λt ht=>h.pt t ht) (λ_=>rfl) λc' f2 g1' AH' A' hφ hl hr hx'=>?_;obtain⟨hs,m,hm,hx'⟩:=AM hx';obtain⟨g3,x',H',AH3,A3,m1,m2,m3,m4,m5⟩:=An9 h (k3.trans hl) hφ hr hs hx';exact ih.out m f2 g1'.w hm ⟨g3,x',H',AH3,A3,m1,m2,m3,m4,m5⟩
    exact GB hR b hks (Lx.refl _) k5 (hstep n x H k4)
  split at hx
  .rename_i la hla;split at hx
   .obtain⟨V,h0,hs⟩:=hx;exact key la V h0 hs
   .obtain⟨V,h0,hs⟩:=hx;exact key la (λn x H=>H=c.H/\V n x) h0 λn x H⟨he,hv⟩=>by subst he;exact hs n x hv
  .exact hx.elim
 | .rangeFunc _ _ _ _,_,_,_,_,_,_,_,_,_,_,_,hx=>hx.elim
 | .scope b,ks,k,c,f,g,gb,AH,A,hk,hb,h,hx=>by refine Akl (GB hR b (gb:=gb) (ks:=ks) ⟨λc' f' g' AH' A' hφ hlx hr hx'=>Ads (hk.nx c' f' g' AH' A' hφ hlx hr hx'),λid q hq=>?_,hk.rt⟩ hb h hx);obtain⟨k',h1,h2⟩:=hk.ex id q hq;exact⟨k',by simp [exitTo,h1],h2⟩
 |.goto _,_,_,_,_,_,_,_,_,_,_,_,hx|.refuse _,_,_,_,_,_,_,_,_,_,_,_,hx=>hx.elim
end
end
section
section
variable {Y:Sys}
def JP:(l:List AK)->IS Y l->Nat->Nat->List (Nat×AV Y)×List (Nat×C6 Y)×Nat
 | [],_,_,n=>([],[],n)
 | .dat .ptr::l,x,i,n=>let r:=JP l x.2 (i+1) (n+1);((i,.ptr n x.1)::r.1,r.2.1,r.2.2)
 | .dat (.int k)::l,x,i,n=>let r:=JP l x.2 (i+1) n;((i,.dat (.int k) x.1)::r.1,r.2.1,r.2.2)
 | .dat .bool::l,x,i,n=>let r:=JP l x.2 (i+1) n;((i,.dat .bool x.1)::r.1,r.2.1,r.2.2)
 | .dat .str::l,x,i,n=>let r:=JP l x.2 (i+1) n;((i,.dat .str x.1)::r.1,r.2.1,r.2.2)
 | .dat .mref::l,x,i,n=>let r:=JP l x.2 (i+1) n;((i,.dat .mref x.1)::r.1,r.2.1,r.2.2)
 | .dat (.sl e)::l,x,i,n=>let r:=JP l x.2 (i+1) n;((i,.dat (.sl e) x.1)::r.1,r.2.1,r.2.2)
 | .dat (.u m)::l,x,i,n=>let r:=JP l x.2 (i+1) n;((i,.dat (.u m) x.1)::r.1,r.2.1,r.2.2)
 | .own t::l,x,i,n=>let r:=JP l x.2 (i+1) (n+1);((i,.own n)::r.1,(n,.sl t x.1)::r.2.1,r.2.2)
 | .map k e::l,x,i,n=>let r:=JP l x.2 (i+1) (n+1);((i,.own n)::r.1,(n,.mp k e x.1)::r.2.1,r.2.2)
 | .mob::l,x,i,n=>let r:=JP l x.2 (i+1) n;((i,.mob x.1)::r.1,r.2.1,r.2.2)
 | .del t::l,x,i,n=>let r:=JP l x.2 (i+1) n;((i,.del t x.1 0)::r.1,r.2.1,r.2.2)
 | .fn as rs::l,x,i,n=>let r:=JP l x.2 (i+1) n;((i,.fn as rs x.1)::r.1,r.2.1,r.2.2)
 | .fbx as rs::l,x,i,n=>let r:=JP l x.2 (i+1) n;((i,.fbx as rs x.1)::r.1,r.2.1,r.2.2)
def NmR(g:B3):List AK->Nat->List Value->Prop
 | [],_,_=>True
 |.own _::l,n,vs|.map _ _::l,n,vs=>(∃v vs',vs=v::vs'/\n<g.n/\g.μ n=v)/\NmR g l (n+1) vs.tail
 | .dat .ptr::l,n,vs=>NmR g l (n+1) vs.tail
 |.dat (.int _)::l,n,vs|.dat .bool::l,n,vs|.dat .str::l,n,vs|.dat .mref::l,n,vs|.dat (.sl _)::l,n,vs|.dat (.u _)::l,n,vs|.mob::l,n,vs|.del _::l,n,vs|.fn _ _::l,n,vs|.fbx _ _::l,n,vs=>NmR g l n vs.tail
theorem NmR.mono{g g':B3}(h:Lx g g'):∀{l:List AK}{n:Nat}{vs:List Value},NmR g l n vs->NmR g' l n vs
 | [],_,_,_=>trivial
 |.own _::l,n,vs,⟨⟨v,vs',h1,h2,h3⟩,h4⟩|.map _ _::l,n,vs,⟨⟨v,vs',h1,h2,h3⟩,h4⟩=>⟨⟨v,vs',h1,Nat.lt_of_lt_of_le h2 h.n,by rw[h.μ _ h2];exact h3⟩,NmR.mono h h4⟩
 |.dat .ptr::l,n,vs,r|.dat (.int _)::l,n,vs,r|.dat .bool::l,n,vs,r|.dat .str::l,n,vs,r|.dat .mref::l,n,vs,r|.dat (.sl _)::l,n,vs,r|.dat (.u _)::l,n,vs,r|.mob::l,n,vs,r|.del _::l,n,vs,r|.fn _ _::l,n,vs,r|.fbx _ _::l,n,vs,r=>NmR.mono (l:=l) h r
theorem Sb{p:Nat×AV Y}{l:List (Nat×AV Y)}{Q:Nat->AV Y->Prop}(h0:Q p.1 p.2)(h:∀j a,Hu l j=some a->Q j a):∀j a,Hu (p::l) j=some a->Q j a:=λj a hj=>by
 unfold Hu at hj;by_cases he:p.1=j
 .rw[if_pos he]at hj;cases hj;subst he;exact h0
 .rw[if_neg he]at hj;exact h j a hj
theorem UB{f:Fr}:∀{l:List AK}{x:IS Y l}{i:Nat}{g:B3}{vs:List Value}{A:Bh},ArR Y g.I g.w l x vs A->(∀j v,vs[j]?=some v->f (i+j)=v)->∃g',Le g g'/\g'.w=g.w/\g'.I=g.I/\g'.n=(JP l x i g.n).2.2/\(∀j a,Hu (JP l x i g.n).1 j=some a->AR g' a (f j))/\Fv g' (JP l x i g.n).2.1 A/\NmR g' l g.n vs
 | [],x,i,g,vs,A,⟨h1,h2⟩,hf=>by subst h1 h2;exact⟨g,Le.refl _,rfl,rfl,rfl,by intro j a h;simp [JP,Hu]at h,rfl,trivial⟩
 |k::l,x,i,g,vs,A,h,hf=>by
  have tl:∀{v:Value}{vs':List Value},vs=v::vs'->f i=v/\∀j u,vs'[j]?=some u->f (i+1+j)=u:=λe=>by subst e;refine⟨hf 0 _ rfl,λj u hu=>?_⟩;have:=hf (j+1) u (by simpa using hu);rwa [Nat.add_assoc,Nat.add_comm 1 j]
  have plain:∀{a:AV Y}{x':IS Y l}{v:Value}{vs':List Value},vs=v::vs'->AR g a v->ArR Y g.I g.w l x' vs' A->∃g',Le g g'/\g'.w=g.w/\g'.I=g.I/\g'.n=(JP l x' (i+1) g.n).2.2/\(∀j b,Hu ((i,a)::(JP l x' (i+1) g.n).1) j=some b->AR g' b (f j))/\Fv g' (JP l x' (i+1) g.n).2.1 A/\NmR g' l g.n vs.tail:=λe ha hr=>by obtain⟨g',k1,k2,k3,k4,k5,k6,k7⟩:=UB hr (tl e).2;exact⟨g',k1,k2,k3,k4,Sb (Q:=λj b=>AR g' b (f j)) (by show AR g' _ (f i);rw[(tl e).1];exact ha.mono k1) k5,k6,by rw[e];exact k7⟩
  have named:∀{a:AV Y}{s:List (Nat×C6 Y)}{x':IS Y l}{v:Value}{vs':List Value}{A1 A2:Bh},vs=v::vs'->A=A1++A2->(∀g',Le (g.new g.w v) g'->AR g' a v/\Fv g' s A1)->ArR Y g.I g.w l x' vs' A2->
    ∃g',Le g g'/\g'.w=g.w/\g'.I=g.I/\g'.n=(JP l x' (i+1) (g.n+1)).2.2/\(∀j b,Hu ((i,a)::(JP l x' (i+1) (g.n+1)).1) j=some b->AR g' b (f j))/\Fv g' (s++(JP l x' (i+1) (g.n+1)).2.1) A/\NmR g' l (g.n+1) vs.tail/\g.n<g'.n/\g'.μ g.n=v:=λ{a s x' v vs' A1 A2}e eA ha hr=>by
   subst eA
   obtain⟨g',k1,k2,k3,k4,k5,k6,k7⟩:=UB (g:=g.new g.w v) hr (tl e).2
   exact⟨g',(Le.new (Ext.refl _ _)).trans k1,k2,k3,k4,Sb (Q:=λj b=>AR g' b (f j)) (by show AR g' _ (f i);rw[(tl e).1];exact(ha g' k1).1) k5,(ha g' k1).2.app k6,by rw[e];exact k7,Nat.lt_of_lt_of_le (Nat.lt_succ_self _) k1.n,by rw[k1.μ _ (Nat.lt_succ_self _),g.B7]⟩
  have lt:∀{v:Value},g.n<(g.new g.w v).n:=Nat.lt_succ_self _;cases k with
  |dat t=>
   obtain⟨v,vs',h1,h2,h3⟩:=h;cases t with
   |ptr=>
    obtain⟨g',k1,k2,k3,k4,k5,k6,k7,_,_⟩:=named (a:=.ptr g.n x.1) (s:=[]) (A1:=[]) h1 rfl (λg' hle=>⟨⟨Nat.lt_of_lt_of_le lt hle.n,by rw[hle.μ _ lt,g.B7],KN.1 h2⟩,rfl⟩) h3;exact⟨g',k1,k2,k3,k4,k5,k6,k7⟩
   |int k=>exact plain (a:=.dat (.int k) x.1) h1 h2 h3
   |bool=>exact plain (a:=.dat .bool x.1) h1 h2 h3
   |str=>exact plain (a:=.dat .str x.1) h1 h2 h3
   |mref=>exact plain (a:=.dat .mref x.1) h1 h2 h3
   |sl e=>exact plain (a:=.dat (.sl e) x.1) h1 h2 h3
   |u m=>exact plain (a:=.dat (.u m) x.1) h1 h2 h3
  |own t=>
   obtain⟨v,vs',A1,A2,h1,h2,h3,h4⟩:=h;obtain⟨g',k1,k2,k3,k4,k5,k6,k7,k8,k9⟩:=named (a:=.own g.n) (s:=[(g.n,.sl t x.1)]) h1 h2 (λg' hle=>⟨(FX rfl:AR (g.new g.w v) (.own g.n) v).mono hle,A1,[],by simp,Nat.lt_of_lt_of_le lt hle.n,SR.mono hle lt (by show ND Y t _ _ _ _ _;rw[g.B7];exact h3),rfl⟩) h4;exact⟨g',k1,k2,k3,k4,k5,k6,⟨v,vs',h1,k8,k9⟩,k7⟩
  |map k e=>
   obtain⟨v,vs',A1,A2,h1,h2,h3,h4⟩:=h;obtain⟨g',k1,k2,k3,k4,k5,k6,k7,k8,k9⟩:=named (a:=.own g.n) (s:=[(g.n,.mp k e x.1)]) h1 h2 (λg' hle=>⟨(FX rfl:AR (g.new g.w v) (.own g.n) v).mono hle,A1,[],by simp,Nat.lt_of_lt_of_le lt hle.n,SR.mono hle lt (by show WN Y k e _ _ _ _ _;rw[g.B7];exact h3),rfl⟩) h4;exact⟨g',k1,k2,k3,k4,k5,k6,⟨v,vs',h1,k8,k9⟩,k7⟩
  |mob=>obtain⟨v,vs',h1,h2,h3⟩:=h;exact plain (a:=.mob x.1) h1 h2 h3
  |del t=>obtain⟨v,vs',h1,h2,h3⟩:=h;exact plain (a:=.del t x.1 0) h1 h2 h3
  |fn as rs=>obtain⟨v,vs',h1,h2,h3⟩:=h;exact plain (a:=.fn as rs x.1) h1 h2 h3
  |fbx as rs=>obtain⟨v,vs',h1,h2,h3⟩:=h;exact plain (a:=.fbx as rs x.1) h1 h2 h3
def ini(l:List AK)(x:IS Y l)(H:HH Y):Cf Y:={fr:=(JP l x 0 0).1,sg:=(JP l x 0 0).2.1,nx:=(JP l x 0 0).2.2,H:=H,op:=none,hs:=[],pt:=[]}
def VS(c:Cf Y):List ResultVar->List RK->Cf Y
 | .tmp t::l,.dat _::ks=>VS (OF c (.tmp t)) l ks
 | .cell a ty::l,.dat _::ks=>VS (match Hu c.fr a with |some p=>Uv c ty p |none=>c) l ks
 |_::l,_::ks=>VS c l ks
 |_,_=>c
theorem Ag3{g0:B3}{T AH:Bh}{f:Fr}:∀(l:List ResultVar)(ks:List RK){g:B3}{A:Bh}{c:Cf Y},RG g0 T c f g AH A->∃g' A',g'.w=g.w/\Le g g'/\RG g0 T (VS c l ks) f g' AH A'
 | [],ks,g,A,c,h=>⟨g,A,rfl,Le.refl _,by unfold VS;exact h⟩
 |r::l,[],g,A,c,h=>⟨g,A,rfl,Le.refl _,by cases r<;>exact h⟩
 |r::l,k::ks,g,A,c,h=>by
  have go:∀{c1:Cf Y}{g1:B3}{A1:Bh},g1.w=g.w->Le g g1->RG g0 T c1 f g1 AH A1->∃g' A',g'.w=g.w/\Le g g'/\RG g0 T (VS c1 l ks) f g' AH A':=λh1 h2 h3=>by obtain⟨g2,A2,h4,h5,h6⟩:=Ag3 l ks h3;exact⟨g2,A2,h4.trans h1,h2.trans h5,h6⟩
  cases r with
  |tmp t=>
   cases k with
   |dat ty=>obtain⟨g1,A1,h1,h2,h3⟩:=J6 h (.tmp t);exact go h1 h2 h3
   |own ty|map k e|ownO ty=>exact go rfl (Le.refl _) h
  |cell a ty=>
   cases k with
   |dat t=>
    unfold VS;split
    .rename_i p _;obtain⟨g1,A1,h1,h2,h3⟩:=UE h ty p;exact go h1 h2 h3
    .exact go rfl (Le.refl _) h
   |own t|map k e|ownO ty=>exact go rfl (Le.refl _) h
def PV(c:Cf Y):List ResultVar->(List (AV Y)->Prop)->Prop
 | [],k=>k []
 | .tmp t::l,k=>match Hu c.fr t with
  |some a=>PV c l λas=>k (a::as)
  |none=>False
 | .cell a ty::l,k=>match Hu c.fr a with
  |some (.adr i o)=>rdX c ty (.adr i o) λb=>PV c l λas=>k (b::as)
  |some (.del T d o)=>ldD ty T d o λb=>PV c l λas=>k (b::as)
  |_=>False
def PU(tmps:Array Value):ResultVar->Sem Value
 | .tmp t=>pure (tmps.getD t undef)
 | .cell a t=>do loadVar t (<- asAddr (tmps.getD a undef))
variable {w:World}
theorem ZX{P:Program}{f:Fr}{t ty:TypeId}{a:Nat}{v:Value}{p:Addr}(h:KC P f (.load t (.tmp a)) ty v w)(hp:f a=.pointer (some p)):(loadVar t p).run P w=.ok v w:=by
 have:=h none "" #[] none;simp only[execOp,Instr.loadAt,X.ev,hp,Instr.sureAddr,Sem.run_bind,Sem.run_pure,Result.andThen_ok]at this;cases hl:(loadVar t p).run P w with
 |ok u w'=>rw[hl]at this;simp only[Result.andThen_ok,Result.ok.injEq,Next.value.injEq]at this;rw[this.1,this.2]
 |halt x w'=>rw[hl]at this;simp [Result.andThen]at this
theorem Oz{g0 g:B3}{T AH A:Bh}{c:Cf Y}{f:Fr}(h:RG g0 T c f g AH A){N:Nat}:∀{l:List ResultVar}{k:List (AV Y)->Prop},PV c l k->∃as vs,k as/\F2 (AR g) as vs/\∀a,Is N a f->(l.mapM (PU a)).run Y.P g.w=.ok vs g.w
 | [],k,hk=>⟨[],[],hk,.nil,λ_ _=>rfl⟩
 | .tmp t::l,k,hk=>by
  unfold PV at hk;split at hk
  .rename_i a ha;obtain⟨as,vs,h1,h2,h3⟩:=Oz (N:=N) h hk;refine⟨a::as,f t::vs,h1,.cons (h.fr t a ha) h2,λarr harr=>?_⟩;have:=harr.2 t;simp [List.mapM_cons,PU,h3 arr harr];simpa [Array.getD_eq_getD_getElem?] using this
  .exact hk.elim
 | .cell a ty::l,k,hk=>by
  have fin:∀{b:AV Y}{v:Value}{p:Addr},f a=.pointer (some p)->AR g b v->KC Y.P f (.load ty (.tmp a)) 0 v g.w->(PV c l λas=>k (b::as))->∃as vs,k as/\F2 (AR g) as vs/\∀a',Is N a' f->((ResultVar.cell a ty::l).mapM (PU a')).run Y.P g.w=.ok vs g.w:=λ{b v p}hp hb hy hk=>by
   obtain⟨as,vs,h1,h2,h3⟩:=Oz (N:=N) h hk;refine⟨b::as,v::vs,h1,.cons hb h2,λarr harr=>?_⟩;have hl:=ZX hy hp;have ht:arr.getD a undef=.pointer (some p):=by rw[harr.2 a,hp]
   simp [List.mapM_cons,PU,ht,asAddr,hl,h3 arr harr]
  unfold PV at hk;split at hk
  .rename_i i o ha;obtain⟨v,b,h1,h2,h3⟩:=Vj (ty:=0) (x:=.tmp a) h hk (h.fr a _ ha);obtain⟨_,bb,_,hp⟩:=h.fr a _ ha;exact fin hp h2 h3 h1
  .rename_i T' d o ha;obtain⟨bb,off,u,k1,k2,k3,k4⟩:=h.fr a _ ha;obtain⟨v,b,h1,h2,h3⟩:=Aeo (ty:=0) (x:=.tmp a) hk k1 k2 k3 k4;exact fin k4 h2 (h3 _ (Sx.refl _)) h1
  .exact hk.elim
variable {F:Func}
theorem Gx{P:Program}{a:Array Value}{vs:List Value}(h:(F.results.toList.mapM (PU a)).run P w=.ok vs w):(results F a).run P w=.ok (JX vs) w:=by
 have e:results F a=(F.results.mapM (PU a) >>=λvs=>pure (if h:vs.size=1 then vs[0] else .tuple vs)):=by unfold results;congr 1
 rw[e,Array.mapM_eq_mapM_toList];simp only[Sem.run_bind,map_eq_pure_bind,h,Result.andThen_ok,Sem.run_pure,bind_assoc,pure_bind];cases vs with
 |nil=>rfl
 |cons v vs=>
  cases vs with
  |nil=>rfl
  |cons u vs=>simp [JX]
def mkR:(l:List RK)->List (AV Y)->List (Nat×C6 Y)->Option (Lq Y l×List (Nat×C6 Y))
 | [],[],sg=>some ((),sg)
 | .dat t::l,a::as,sg=>match U0 t a,mkR l as sg with
  |some x,some r=>some ((x,r.1),r.2)
  |_,_=>none
 | .own t::l,a::as,sg=>match Ajf (.own t) a sg with
  |some q=>match mkR l as q.2 with
   |some r=>some ((q.1,r.1),r.2)
   |none=>none
  |none=>none
 | .map k e::l,a::as,sg=>match getM k e a sg with
  |some q=>match mkR l as q.2 with
   |some r=>some ((q.1,r.1),r.2)
   |none=>none
  |none=>none
 |_,_,_=>none
theorem Zs{g:B3}:∀{l:List RK}{as:List (AV Y)}{sg:List (Nat×C6 Y)}{r:Lq Y l×List (Nat×C6 Y)}{vs:List Value}{A:Bh},mkR l as sg=some r->Fv g sg A->F2 (AR g) as vs->∃A1 A2,A.Perm (A1++A2)/\ReR Y g.I g.w l r.1 vs A1/\Fv g r.2 A2
 | [],[],sg,r,_,A,h,hs,.nil=>by cases h;exact⟨[],A,List.Perm.refl _,⟨rfl,rfl⟩,hs⟩
 | .dat t::l,a::as,sg,r,v::vs,A,h,hs,.cons h1 h2=>by
  unfold mkR at h;split at h
  .rename_i x r' hx hr;cases h;obtain⟨A1,A2,h3,h4,h5⟩:=Zs hr hs h2;exact⟨A1,A2,h3,⟨v,vs,rfl,Dk hx h1,h4⟩,h5⟩
  .cases h
 | .own t::l,a::as,sg,r,v::vs,A,h,hs,.cons h1 h2=>by
  unfold mkR at h;split at h
  .rename_i q hq;split at h
   .rename_i r' hr;cases h;obtain⟨B1,B2,k1,k2,k3⟩:=UD hq hs h1;obtain⟨A1,A2,h3,h4,h5⟩:=Zs hr k3 h2;exact⟨B1++A1,A2,perm_cons k1 h3,⟨v,vs,B1,A1,rfl,rfl,k2,h4⟩,h5⟩
   .cases h
  .cases h
 | .map k e::l,a::as,sg,r,v::vs,A,h,hs,.cons h1 h2=>by
  unfold mkR at h;split at h
  .rename_i q hq;split at h
   .rename_i r' hr;cases h;obtain⟨B1,B2,k1,k2,k3⟩:=Z6 (s:=.map k e) hq hs h1;obtain⟨A1,A2,h3,h4,h5⟩:=Zs hr k3 h2;exact⟨B1++A1,A2,perm_cons k1 h3,⟨v,vs,B1,A1,rfl,rfl,k2,h4⟩,h5⟩
   .cases h
  .cases h
 |.ownO _::_,_::_,_,_,_,_,h,_,_|[],_::_,_,_,_,_,h,_,_|_::_,[],_,_,_,_,h,_,_=>by simp [mkR]at h
def mkI:(l:List AK)->Nat->List (Nat×C6 Y)->Option (Nz Y l×List (Nat×C6 Y))
 | [],_,sg=>some ((),sg)
 | .own t::l,n,sg=>match Ajf (.own t) (.own n) sg with
  |some q=>match mkI l (n+1) q.2 with
   |some r=>some ((q.1,r.1),r.2)
   |none=>none
  |none=>none
 | .map k e::l,n,sg=>match getM k e (.own n) sg with
  |some q=>match mkI l (n+1) q.2 with
   |some r=>some ((q.1,r.1),r.2)
   |none=>none
  |none=>none
 | .dat .ptr::l,n,sg=>mkI l (n+1) sg
 |.dat (.int _)::l,n,sg|.dat .bool::l,n,sg|.dat .str::l,n,sg|.dat .mref::l,n,sg|.dat (.sl _)::l,n,sg|.dat (.u _)::l,n,sg|.mob::l,n,sg|.del _::l,n,sg|.fn _ _::l,n,sg|.fbx _ _::l,n,sg=>mkI l n sg
theorem V4{g:B3}:∀{l:List AK}{n:Nat}{vs:List Value}{sg:List (Nat×C6 Y)}{r:Nz Y l×List (Nat×C6 Y)}{A:Bh},mkI l n sg=some r->NmR g l n vs->Fv g sg A->∃A1 A2,A.Perm (A1++A2)/\IoR Y g.I g.w l r.1 vs A1/\Fv g r.2 A2
 | [],n,vs,sg,r,A,h,_,hs=>by cases h;exact⟨[],A,List.Perm.refl _,rfl,hs⟩
 | .own t::l,n,vs,sg,r,A,h,⟨⟨v,vs',h1,h2,h3⟩,h4⟩,hs=>by
  simp only[mkI]at h;split at h
  .rename_i q hq;split at h
   .rename_i r' hr;cases h;subst h1;obtain⟨B1,B2,k1,k2,k3⟩:=UD hq hs (show AR g (.own n) v from ⟨h2,h3.symm⟩);obtain⟨A1,A2,k4,k5,k6⟩:=V4 hr h4 k3;exact⟨B1++A1,A2,perm_cons k1 k4,⟨v,vs',B1,A1,rfl,rfl,k2,k5⟩,k6⟩
   .cases h
  .cases h
 | .map k e::l,n,vs,sg,r,A,h,⟨⟨v,vs',h1,h2,h3⟩,h4⟩,hs=>by
  simp only[mkI]at h;split at h
  .rename_i q hq;split at h
   .rename_i r' hr;cases h;subst h1;obtain⟨B1,B2,k1,k2,k3⟩:=Z6 (s:=.map k e) (a:=.own n) (r:=q) hq hs (show AR g (.own n) v from ⟨h2,h3.symm⟩);obtain⟨A1,A2,k4,k5,k6⟩:=V4 hr h4 k3;exact⟨B1++A1,A2,perm_cons k1 k4,⟨v,vs',B1,A1,rfl,rfl,k2,k5⟩,k6⟩
   .cases h
  .cases h
 | .dat t::l,n,vs,sg,r,A,h,hn,hs=>by cases t<;>exact V4 (l:=l) (vs:=vs.tail) h hn hs
 |.mob::l,n,vs,sg,r,A,h,hn,hs|.del _::l,n,vs,sg,r,A,h,hn,hs|.fn _ _::l,n,vs,sg,r,A,h,hn,hs|.fbx _ _::l,n,vs,sg,r,A,h,hn,hs=>V4 (l:=l) (vs:=vs.tail) h hn hs
def rtY(res:List ResultVar)(σ:Bs)(Q:Lq Y σ.res->Nz Y σ.args->HH Y->Prop)(c:Cf Y):Prop:=
 PV (VS c res σ.res) res λas=>match mkR σ.res as (VS c res σ.res).sg,(VS c res σ.res).op with
  |some r,none=>match mkI σ.args 0 r.2 with
   |some q=>Q r.1 q.1 (VS c res σ.res).H
   |none=>False
  |_,_=>False
def rtX(res:List ResultVar)(σ:Bs)(Q:Lq Y σ.res->Nz Y σ.args->HH Y->Prop)(c:Cf Y):Prop:=cls c (rtY res σ Q)
theorem ZP{I:BY}:∀{l:List AK}{x:IS Y l}{vs:List Value}{A:Bh},ArR Y I w l x vs A->vs.length=l.length:=by
 intro l;induction l with
 |nil=>intro x vs A h;rw[h.1];rfl
 |cons k l ih=>
  intro x vs A h;cases k with
  |dat t=>obtain⟨v,vs',h1,_,h3⟩:=h;rw[h1];simp [ih h3]
  |own t|map k e=>obtain⟨v,vs',A1,A2,h1,_,_,h3⟩:=h;rw[h1];simp [ih h3]
  |mob|del t|fn as rs|fbx as rs=>obtain⟨v,vs',h1,_,h3⟩:=h;rw[h1];simp [ih h3]
theorem Ale{gi g:B3}{σ:Bs}{N:Nat}{Q:Lq Y σ.res->Nz Y σ.args->HH Y->Prop}{vs:List Value}(k7:NmR g σ.args 0 vs){T:Bh}{c:Cf Y}{f:Fr}{g':B3}{AH' A':Bh}(hlx:Lx g g')(hr:RG gi T c f g' AH' A')(hx:rtX F.results.toList σ Q c):∃v,(∀a,Is N a f->(results F a).run Y.P g'.w=.ok v g'.w)/\((∃v' I',Ending.returned v=.returned v'/\Ext gi.I gi.w I' g'.w/\∃AH' A' H',St I' g'.w (AH'++(A'++T))/\Hk (P2 Y) I' g'.w H' AH'/\∃b io us A1 A2,A'=A1++A2/\v'=JX us/\ReR Y I' g'.w σ.res b us A1/\IoR Y I' g'.w σ.args io vs A2/\Q b io H')):=by
 have fin0:∀(c:Cf Y)(f:Fr)(g':B3)(AH' A':Bh),Lx g g'->RG gi T c f g' AH' A'->rtY F.results.toList σ Q c->∃v,(∀a,Is N a f->(results F a).run Y.P g'.w=.ok v g'.w)/\
   ((∃v' I',Ending.returned v=.returned v'/\Ext gi.I gi.w I' g'.w/\∃AH' A' H',St I' g'.w (AH'++(A'++T))/\Hk (P2 Y) I' g'.w H' AH'/\∃b io us A1 A2,A'=A1++A2/\v'=JX us/\ReR Y I' g'.w σ.res b us A1/\IoR Y I' g'.w σ.args io vs A2/\Q b io H')):=λc f g' AH' A' hlx hr hx=>by
  obtain⟨g1,A1,m1,m2,m3⟩:=Ag3 F.results.toList σ.res hr
  obtain⟨as,us,n1,n2,n3⟩:=Oz (N:=N) m3 hx
  split at n1
  .rename_i r hr' hop
   split at n1
   .rename_i q' hq'
    obtain⟨B1,B2,p1,p2,p3⟩:=Zs hr' m3.sg n2
    obtain⟨C1,C2,q1,q2,q3⟩:=V4 hq' (k7.mono (hlx.trans m2.lx)) p3
    have hH':=m3.hr
    rw[hop]at hH'
    refine⟨JX us,λa ha=>by rw[<-m1];exact Gx (n3 a ha),JX us,g1.I,rfl,by rw[<-m1];exact m3.le,AH',B1++C1,_,?_,by rw[<-m1];exact hH',r.1,q'.1,us,B1,C1,rfl,rfl,by rw[<-m1];exact p2,by rw[<-m1];exact q2,n1⟩
    rw[<-m1]
    have hp:A1.Perm ((B1++C1)++C2):=perm_cons p1 q1
    have h1:=m3.st.perm ((hp.append_right T).append_left AH')
    rw[List.append_assoc]at h1
    have:St g1.I g1.w ((AH'++(B1++C1))++(C2++T)):=by simpa [List.append_assoc] using h1
    simpa [List.append_assoc] using DD this
   .exact n1.elim
  .exact n1.elim
 obtain⟨c1,g1,AH1,A1,hq,hw,hle,hr1,_,_⟩:=D0 hr hx;rw[<-hw];exact fin0 c1 f g1 AH1 A1 (hlx.trans hle.lx) hr1 hq
theorem Ah4{E:Env Y}{q:FuncId}{σ:Bs}{code:Code}{a:IS Y σ.args}{H:HH Y}{Q:Lq Y σ.res->Nz Y σ.args->HH Y->Prop}(hf:Y.P.funcs[q]?=some F)(hb:F.body=some code)(hN:F.ntmps=E.N)(hl:Nat.ble σ.args.length E.N=true)(h:TD E code (ini σ.args a H) {nx:=rtX F.results.toList σ Q,ex:=[],rt:=rtX F.results.toList σ Q}):Wp Y q σ a H Q E.X:=by
 intro I w T A AH vs hargs hH hst;refine QA hf hb hN (by rw[ZP hargs];exact hl) ?_;let gi:B3:={I:=I,w:=w,n:=0,μ:=λ_=>undef,φ:=WI vs}
 obtain⟨g,k1,k2,k3,k4,k5,k6,k7⟩:=UB (g:=gi) (i:=0) (f:=WI vs) hargs (λj v hj=>by rw[Nat.zero_add,<-L6,hj];rfl);have hr:RG gi T (ini σ.args a H) (WI vs) g AH A:=⟨k4,k1.ext,by rw[k2,k3];exact hst,by show Hk _ _ _ _ _;rw[k2,k3];exact hH,k6,λx hx=>(by cases hx),λt ht=>(by simp [ini,Lt]at ht),k5⟩
 have fin:∀(c:Cf Y)(f:Fr)(g':B3)(AH' A':Bh),Lx g g'->RG gi T c f g' AH' A'->rtX F.results.toList σ Q c->_:=λc f g' AH' A' hlx hr hx=>Ale (N:=E.N) k7 hlx hr hx;have hR:GC gi T E.X ((⟨q,none,[]⟩:FK).at (Ajy Y.P F E.N λe w'=>(∃v I',e=.returned v/\Ext I w I' w'/\∃AH' A' H',St I' w' (AH'++(A'++T))/\Hk (P2 Y) I' w' H' AH'/\∃b io us A1 A2,A'=A1++A2/\v=JX us/\ReR Y I' w' σ.res b us A1/\IoR Y I' w' σ.args io vs A2/\Q b io H') ∨
   (∃v I',e=.panicked [{v,recovered:=false}]/\Ext I w I' w'/\∃AH' H' t l u,St I' w' (AH'++T)/\Hk (P2 Y) I' w' H' AH'/\v=.iface t u/\rp Y.toUS l.t I' w' u l.x/\E.X t l H'))):=λv w' I' AH' H' t l u h1 h2 h3 h4 h5 h6 _=>.inr ⟨v,I',rfl,h1,AH',H',t,l,u,h2,h3,h4,h5,h6⟩
 have:=GB (fn:=⟨q,none,[]⟩) (gb:=g) hR code (k:=[]) ⟨λc f g' AH' A' _ hlx hr hx=>?_,λid q hq=>by simp [Z0]at hq,λc f g' AH' A' k' hlx hr hx=>?_⟩ (Lx.refl g) hr h
 .rw[k2]at this;exact this
 .obtain⟨v,h1,v',I',h2,h3,h4⟩:=fin c f g' AH' A' hlx hr hx;exact SP ⟨v,h1,.inl ⟨v',I',h2,h3,h4⟩⟩
 .obtain⟨v,h1,v',I',h2,h3,h4⟩:=fin c f g' AH' A' hlx hr hx;exact MW ⟨v,h1,.inl ⟨v',I',h2,h3,h4⟩⟩
end
end
end Go.Y
