/-
  The Y layer, part p: what is told at the head of a loop, and where ways meet. (Merged by program out of 2 texts.)
-/
import Derived.Test.YtcbkbpjlbmalmaaGreatDoorpag
namespace Go.Y
open Go Go.RowKit Go.X
section
inductive Sh1 where
 |dat (t:Ty)
 |own (t:Ty)
inductive Sh where
 |one (s:Sh1)
 |nat
 |map (k e:Ty)
 |blk (l:List Sh1)
structure LA where
 vars:List (Nat×Sh)
 Cq:List Nat
 heap:Bool
structure Env(Y:Sys) where
 N:Nat
 fty:TypeId->Option (List Ty×List Ty)
 sigs:FuncId->Option Sig
 pf:(q:FuncId)->Option (PF Y q)
 X:Pan Y
 lp:List (Nat×LA)
 jn:List (Nat×LA)
 pr:List (Nat×Nat)
 im:List Nat
 wr:List Nat:=[]
 oc:List Nat:=[]
 tk:List Nat:=[]
 hd:List (Nat×List Nat):=[]
 tw:List Nat:=[]
 il:(q:FuncId)->Option (Inl Y q):=λ_=>none
section
variable {Y:Sys}
def A1s(c:Cf Y):AV Y->Cf Y
 | .own i=>match lkS c.sg i with
  |some (.sl _ _)=>c.frz i
  |_=>c
 | .sub i _ _=>c.frz i
 |_=>c
def As1(c:Cf Y):List (AV Y)->Cf Y
 | []=>c
 |a::l=>As1 (A1s c a) l
def W6(c:Cf Y)(x:Operand):Cf Y:=match evA c x with
 |some a=>A1s c a
 |none=>c
def Akg(c:Cf Y):List Operand->Cf Y
 | []=>c
 |x::l=>Akg (W6 c x) l
variable {g0 g:Gst} {T AH A:Own} {c:Cf Y} {f:Fr}
theorem As2(h:RG g0 T c f g AH A)(a:AV Y):∃g' A',g'.w=g.w/\Le g g'/\RG g0 T (A1s c a) f g' AH A':=by
 unfold A1s;split
 .split
  .obtain⟨g',A',h1,_,h2,h3⟩:=h.frz _;exact⟨g',A',h1,h2,h3⟩
  .exact⟨g,A,rfl,Le.refl _,h⟩
 .obtain⟨g',A',h1,_,h2,h3⟩:=h.frz _;exact⟨g',A',h1,h2,h3⟩
 .exact⟨g,A,rfl,Le.refl _,h⟩
theorem Ag9{g0:Gst}{T AH:Own}{f:Fr}:∀(l:List (AV Y)){g:Gst}{A:Own}{c:Cf Y},RG g0 T c f g AH A->∃g' A',g'.w=g.w/\Le g g'/\RG g0 T (As1 c l) f g' AH A'
 | [],g,A,c,h=>⟨g,A,rfl,Le.refl _,h⟩
 |a::l,g,A,c,h=>by obtain⟨g1,A1,h1,h2,h3⟩:=As2 h a;obtain⟨g2,A2,h4,h5,h6⟩:=Ag9 l h3;exact⟨g2,A2,h4.trans h1,h2.trans h5,h6⟩
theorem Pn(h:RG g0 T c f g AH A)(x:Operand):∃g' A',g'.w=g.w/\Le g g'/\RG g0 T (W6 c x) f g' AH A':=by
 unfold W6;split
 .exact As2 h _
 .exact⟨g,A,rfl,Le.refl _,h⟩
theorem W5{g0:Gst}{T AH:Own}{f:Fr}:∀(l:List Operand){g:Gst}{A:Own}{c:Cf Y},RG g0 T c f g AH A->∃g' A',g'.w=g.w/\Le g g'/\RG g0 T (Akg c l) f g' AH A'
 | [],g,A,c,h=>⟨g,A,rfl,Le.refl _,h⟩
 |a::l,g,A,c,h=>by obtain⟨g1,A1,h1,h2,h3⟩:=Pn h a;obtain⟨g2,A2,h4,h5,h6⟩:=W5 l h3;exact⟨g2,A2,h4.trans h1,h2.trans h5,h6⟩
def A1t(c:Cf Y):List AK->List Operand->Cf Y
 | .dat _::ks,x::l=>A1t (W6 c x) ks l
 |_::ks,_::l=>A1t c ks l
 |_,_=>c
theorem Sf{g0:Gst}{T AH:Own}{f:Fr}:∀(ks:List AK)(l:List Operand){g:Gst}{A:Own}{c:Cf Y},RG g0 T c f g AH A->∃g' A',g'.w=g.w/\Le g g'/\RG g0 T (A1t c ks l) f g' AH A'
 | .dat _::ks,x::l,g,A,c,h=>by obtain⟨g1,A1,h1,h2,h3⟩:=Pn h x;obtain⟨g2,A2,h4,h5,h6⟩:=Sf ks l h3;exact⟨g2,A2,h4.trans h1,h2.trans h5,h6⟩
 | .own _::ks,_::l,g,A,c,h=>Sf ks l h
 | .map _ _::ks,_::l,g,A,c,h=>Sf ks l h
 | .mob::ks,_::l,g,A,c,h=>Sf ks l h
 | .del _::ks,_::l,g,A,c,h=>Sf ks l h
 | .fbx _ _::ks,_::l,g,A,c,h=>Sf ks l h
 | .fn _ _::ks,_::l,g,A,c,h=>Sf ks l h
 | [],_,g,A,c,h=>⟨g,A,rfl,Le.refl _,by cases ‹List Operand›<;>exact h⟩
 | .dat _::_,[],g,A,c,h | .own _::_,[],g,A,c,h | .map _ _::_,[],g,A,c,h | .mob::_,[],g,A,c,h | .del _::_,[],g,A,c,h | .fn _ _::_,[],g,A,c,h | .fbx _ _::_,[],g,A,c,h=>⟨g,A,rfl,Le.refl _,h⟩
def Ayp(sigs:FuncId->Option Sig)(c:Cf Y)(cl:Operand)(l:List Operand):Cf Y:=match cl with
 | .func q=>match sigs q with
  |some σ=>A1t c σ.args l
  |none=>c
 |_=>Akg c l
theorem A1v{sigs:FuncId->Option Sig}(h:RG g0 T c f g AH A)(cl:Operand)(l:List Operand):∃g' A',g'.w=g.w/\Le g g'/\RG g0 T (Ayp sigs c cl l) f g' AH A':=by
 unfold Ayp;split
 .split
  .exact Sf _ _ h
  .exact⟨g,A,rfl,Le.refl _,h⟩
 .exact W5 _ h
def As7(c:Cf Y)(t:TypeId)(ps:Array (Nat×Operand)):Cf Y:=match Y.ty t with
 |some _=>Akg c (ps.toList.map (·.2))
 |none=>c
theorem Aou(h:RG g0 T c f g AH A)(t:TypeId)(ps:Array (Nat×Operand)):∃g' A',g'.w=g.w/\Le g g'/\RG g0 T (As7 c t ps) f g' AH A':=by
 unfold As7;split
 .exact W5 _ h
 .exact⟨g,A,rfl,Le.refl _,h⟩
def Ae3(c:Cf Y)(t:TypeId)(a:AV Y):Cf Y:=match Y.ty t with
 |some (.u _)=>match a with
  | .adr i _=>match lkS c.sg i with
   |some (.blk cs)=>As1 c cs
   |_=>c
  |_=>c
 |_=>c
theorem Afl(h:RG g0 T c f g AH A)(t:TypeId)(a:AV Y):∃g' A',g'.w=g.w/\Le g g'/\RG g0 T (Ae3 c t a) f g' AH A':=by
 unfold Ae3;split
 .split
  .split
   .exact Ag9 _ h
   .exact⟨g,A,rfl,Le.refl _,h⟩
  .exact⟨g,A,rfl,Le.refl _,h⟩
 .exact⟨g,A,rfl,Le.refl _,h⟩
def hpA(w:Nat):AV Y->AV Y
 | .hp i b o=>match Nat.beq i w with
  |true=>.adr i o
  |false=>.hp i b o
 |a=>a
variable {a:AV Y}
theorem Ayi{w:Nat}{v:Value}(h:AR g a v):AR g (hpA w a) v:=by
 unfold hpA;split
 .split
  .exact⟨h.1,_,h.2.1,h.2.2⟩
  .exact h
 .exact h
def hpB:AV Y->AV Y
 | .hp w _ o=>.adr w o
 |a=>a
theorem Ayh{v:Value}(h:AR g a v):AR g (hpB a) v:=by
 unfold hpB;split
 .exact⟨h.1,_,h.2.1,h.2.2⟩
 .exact h
def hpF(w:Nat):List (Nat×AV Y)->List (Nat×AV Y)
 | []=>[]
 |p::l=>(p.1,hpA w p.2)::hpF w l
theorem Aqv{w i:Nat}{b:AV Y}:∀{l:List (Nat×AV Y)},lkF (hpF w l) i=some b->∃a,lkF l i=some a/\b=hpA w a
 | [],h=>by simp [hpF,lkF]at h
 |p::l,h=>by
  simp only[hpF,lkF]at h ⊢;by_cases e:p.1=i
  .rw[if_pos e]at h ⊢;cases h;exact⟨_,rfl,rfl⟩
  .rw[if_neg e]at h ⊢;exact Aqv h
def Awc(c:Cf Y):Cf Y:=match c.op with
 |some o=>match lkS c.sg o.i with
  |some (.blk cs)=>As1 {c with fr:=hpF o.i c.fr,H:=Dp c.H o.b,op:=none} cs
  |_=>c
 |none=>c
theorem A0i(h:RG g0 T c f g AH A):∃g' A',g'.w=g.w/\Le g g'/\RG g0 T (Awc c) f g' AH A':=by
 unfold Awc;split
 .rename_i o ho;split
  .rename_i cs hs;have hH:=h.hr;rw[ho]at hH;obtain⟨hX,h2,h3,h4⟩:=hH;obtain⟨A1,A2,hp,_,⟨b',arr,e,rfl,hb',_⟩,_⟩:=h.sg.take hs;rw[h4]at hb';have hb'':b'=o.b:=by injection hb' with hb';injection hb' with hb';injection hb' with hb' _;exact hb'.symm
   subst hb'';have hmem:(o.b,Obj.cells arr e (0,0))∈A:=hp.symm.mem_iff.1 (by simp);have hne:∀p∈AH,p.1≠o.b:=λp hp' e'=>by have hn:=h.st.nodup;rw[List.map_append,List.nodup_append]at hn;exact hn.2.2 p.1 (List.mem_map_of_mem hp') o.b (List.mem_map.2 ⟨_,List.mem_append_left _ hmem,rfl⟩) e'
   have hr:RG g0 T {c with fr:=hpF o.i c.fr,H:=Dp c.H o.b,op:=none} f g AH A:=⟨h.n,h.le,h.st,Ab7 hX hne,h.sg,h.hs,h.pt,λi b hi=>by obtain⟨a,h5,rfl⟩:=Aqv hi;exact Ayi (h.fr i a h5)⟩
   exact Ag9 _ hr
  .exact⟨g,A,rfl,Le.refl _,h⟩
 .exact⟨g,A,rfl,Le.refl _,h⟩
def tkW(c:Cf Y)(t:TypeId)(a:AV Y)(k:AV Y->Cf Y->Prop):Prop:=match c.op with
 |some o=>match lkS c.sg o.i with
  |some (.blk cs)=>match hpB a with
   | .adr i p=>match Nat.beq i o.i with
    |true=>rdB t cs p λb=>k b {c with fr:=hpF o.i c.fr,H:=Dp c.H o.b,op:=none,sg:=Kc c.sg o.i}
    |false=>False
   |_=>False
  |_=>False
 |none=>False
variable {x:Operand} {k:AV Y->Cf Y->Prop}
theorem A3v(h:RG g0 T c f g AH A){t ty:TypeId}(hx:tkW c t a k)(ha:AR g a (ev f x)):∃v b c' A',k b c'/\AR g b v/\Yld Y.P f (.load t x) ty v g.w/\RG g0 T c' f g AH A':=by
 unfold tkW at hx;split at hx
 .rename_i o ho;split at hx
  .rename_i cs hs;split at hx
   .rename_i i p hp;split at hx
    .rename_i hio;have hio:i=o.i:=Nat.eq_of_beq_eq_true hio;subst hio;have ha2:=Ayh ha;rw[hp]at ha2;obtain⟨_,b1,h4,h5⟩:=ha2;have hH:=h.hr;rw[ho]at hH;obtain⟨hX,h2,h3,hm⟩:=hH;obtain⟨A1,A2,hpm,_,hsr,hsg⟩:=h.sg.take hs;obtain⟨v,b,k1,k2,k3⟩:=Ali (ty:=ty) hx hsr h4 h5;obtain⟨b',arr,e,rfl,hb',_⟩:=hsr;rw[hm]at hb';have hb'':b'=o.b:=by injection hb' with hb';injection hb' with hb';injection hb' with hb' _;exact hb'.symm
     subst hb'';have hmem:(o.b,Obj.cells arr e (0,0))∈A:=hpm.symm.mem_iff.1 (by simp);have hne:∀p∈AH,p.1≠o.b:=λp hp' e'=>by have hn:=h.st.nodup;rw[List.map_append,List.nodup_append]at hn;exact hn.2.2 p.1 (List.mem_map_of_mem hp') o.b (List.mem_map.2 ⟨_,List.mem_append_left _ hmem,rfl⟩) e'
     have st1:=(h.st.perm (Jj hpm AH)).drop;refine⟨v,b,_,A2,k1,k2,k3 g.w λp hp'=>?_,⟨h.n,h.le,st1,Ab7 hX hne,hsg,h.hs,h.pt,λi b hi=>by obtain⟨a,h5,rfl⟩:=Aqv hi;exact Ayi (h.fr i a h5)⟩⟩
     exact(h.st.own p (List.mem_append_right _ (List.mem_append_left _ (hpm.symm.mem_iff.1 (List.mem_append_left _ hp'))))).1
    .exact hx.elim
   .exact hx.elim
  .exact hx.elim
 .exact hx.elim
def inD:Option Tmp->List Nat->Bool
 |some d,l=>inN d l
 |none,_=>false
def A6s(c:Cf Y)(e:TypeId)(a:AV Y)(k:AV Y->Cf Y->Prop):Prop:=match Y.ty e with
 |some T=>match asD T a with
  |some d=>k (.del T d 0) c
  |none=>False
 |none=>False
theorem A2g{T0:Own}(h:RG g0 T0 c f g AH A){e:TypeId}(hk:A6s c e a k)(ha:AR g a (ev f x)):Eff g0 T0 f g.w (.box e x) k g:=by
 intro N ops R K os dst ty pos af next;unfold A6s at hk;split at hk
 .rename_i T hT;split at hk
  .rename_i d hd;letI:Rep (den Y.D T):=RT Y.toUS T
   refine A4x (α:=den Y.D T) h.st (E2 hd ha) rfl λp I' w' e1 s1 hp hpt hr=>?_;have hle:Le g {g with I:=I',w:=w'}:=⟨e1,Nat.le_refl _,λ_ _=>rfl,rfl⟩
   obtain⟨b,off,sp⟩:=p;have hsp:sp=none:=hpt.1;subst hsp;exact next _ (.del T d 0) c {g with I:=I',w:=w'} AH A hle ⟨h.n,h.le.trans e1,s1,h.hr.mono hle,h.sg.mono hle,h.hs.mono hle,hle.pt h.pt,λi a hi=>(h.fr i a hi).mono hle⟩ ⟨b,off,_,hr,hpt,hp,rfl⟩ hk
  .exact hk.elim
 .exact hk.elim
def A6t(sigs:FuncId->Option Sig)(fty:TypeId->Option (List Ty×List Ty))(c:Cf Y)(e:TypeId)(a:AV Y)(k:AV Y->Cf Y->Prop):Prop:=match fty e with
 |some (as,rs)=>match asF sigs mk0 c.sg as rs a with
  |some F=>k (.fbx as rs F) c
  |none=>False
 |none=>False
theorem A2h{sigs:FuncId->Option Sig}{fty:TypeId->Option (List Ty×List Ty)}{T0:Own}(h:RG g0 T0 c f g AH A){e:TypeId}(hk:A6t sigs fty c e a k)(ha:AR g a (ev f x)):Eff g0 T0 f g.w (.box e x) k g:=by
 intro N ops R K os dst ty pos af next;unfold A6t at hk;split at hk
 .rename_i as rs hT;split at hk
  .rename_i F hF;have hv:=Ara hF h.sg ha;obtain⟨e1,s1⟩:=h.st.alloc (.cells (ev f x).cells e);obtain⟨e2,s2⟩:=s1.freeze;let g1:Gst:={g with I:=λb=>g.I b∨∃p,p∈[(g.w.heap.size,Obj.cells (ev f x).cells e)]/\p.1=b,w:=g.w.alloc (.cells (ev f x).cells e)}
   have hle:Le g g1:=⟨e1.trans e2,Nat.le_refl _,λ_ _=>rfl,rfl⟩
   refine Ax (v:=.pointer (some ⟨g.w.heap.size,0,none⟩)) ?_ (next _ (.fbx as rs F) c g1 AH A hle ⟨h.n,h.le.trans (e1.trans e2),s2,h.hr.mono hle,h.sg.mono hle,h.hs.mono hle,hle.pt h.pt,λi a hi=>(h.fr i a hi).mono hle⟩ ⟨g.w.heap.size,0,ev f x,FvR.mono Y (e1.trans e2) hv,⟨rfl,λj hj=>?_⟩,.inr ⟨_,List.mem_singleton.2 rfl,rfl⟩,rfl⟩ hk)
   .simp [execOp,Instr.box,newVar,newRow];rfl
   .rw[B6 (heap_alloc_new g.w _)];simp
  .exact hk.elim
 .exact hk.elim
def lkD:List (Nat×Nat)->Option Tmp->Option Nat
 |_,none=>none
 | [],_=>none
 |p::l,some d=>match Nat.beq p.1 d with
  |true=>some p.2
  |false=>lkD l (some d)
def A2b(c:Cf Y)(pr:Option Nat)(k:Cf Y->Prop):Prop:=match pr with
 |none=>k c
 |some _=>cls c k
theorem Atm(h:RG g0 T c f g AH A){pr:Option Nat}{k:Cf Y->Prop}(hk:A2b c pr k):∃c' g' AH' A',k c'/\g'.w=g.w/\Le g g'/\RG g0 T c' f g' AH' A':=by
 unfold A2b at hk;split at hk
 .exact⟨c,g,AH,A,hk,rfl,Le.refl _,h⟩
 .obtain⟨c',g',AH',A',k1,k2,k3,k4,_⟩:=Fi h hk;exact⟨c',g',AH',A',k1,k2,k3,k4⟩
def A9p:AV Y->Bool
 | .el _ _ _ _=>true
 |_=>false
def pfC(E:Env Y):Op->Option ((q:FuncId)×PF Y q×Array Operand)
 | .call ⟨.value (.func q),as,_⟩=>match E.pf q with
  |some p=>some ⟨q,p,as⟩
  |none=>none
 |_=>none
variable {E:Env Y}
theorem Aqh{o:Op}{r:(q:FuncId)×PF Y q×Array Operand}(h:pfC E o=some r):∃at_,o=.call ⟨.value (.func r.1),r.2.2,at_⟩:=by
 unfold pfC at h;split at h
 .split at h
  .cases h;exact⟨_,rfl⟩
  .cases h
 .cases h
def pcX(c:Cf Y)(r:(q:FuncId)×PF Y q×Array Operand)(K:AV Y->Cf Y->Prop):Prop:=match evL c r.2.2.toList with
 |some l=>pfX r.2.1 c l K
 |none=>False
theorem Aqi(h:RG g0 T c f g AH A){r:(q:FuncId)×PF Y q×Array Operand}{K:AV Y->Cf Y->Prop}(hx:pcX c r K):∃v a c' g',K a c'/\g'.w=g.w/\Le g g'/\RG g0 T c' f g' AH A/\AR g' a v/\∀w,Sx g w->Calls Y.P r.1 ⟨r.2.2.toList.map (ev f)⟩ w λe w'=>e=.returned v/\w'=w:=by
 unfold pcX at hx;split at hx
 .rename_i l hl;exact A4f h hx (Xb h hl)
 .exact hx.elim
def stF(E:Env Y)(c:Cf Y)(t:TypeId)(x y:Operand):Option ((Cf Y->Prop)->Prop):=match E.fty t,x with
 |some (as,rs),.tmp p=>match lkF c.fr p,evA c y with
  |some (.adr i 0),some b=>match lkS c.sg i,asF E.sigs mk0 c.sg as rs b with
   |some (.blk [_]),some F=>some λk=>chk (tyB Y.P t false 1) (k (({c with sg:=Kc c.sg i}:Cf Y).set p (.fbx as rs F)))
   |_,_=>none
  |_,_=>none
 |_,_=>none
theorem A3z(h:RG g0 T c f g AH A){t:TypeId}{y:Operand}{z:(Cf Y->Prop)->Prop}{kk:AV Y->Cf Y->Prop}(hz:stF E c t x y=some z)(hk:z λc'=>kk (.val undef) c'):Eff g0 T f g.w (.store t x y) kk g:=by
 intro N ops R K os dst ty pos af next;unfold stF at hz;split at hz
 .rename_i as rs p hty;split at hz
  .rename_i i b hp hb;split at hz
   .rename_i a0 F hs hF;cases hz;obtain⟨ht,hk⟩:=Bj hk;obtain⟨A1,A2,h1,hin,⟨b',arr,e,rfl,hb',hf⟩,hsg⟩:=h.sg.take hs;have hst:=h.st.perm (Jj h1 AH);obtain⟨_,b1,hμ,hv⟩:=h.fr p _ hp;rw[hb']at hμ;cases hμ;have hvF:=Ara hF h.sg (h.ev hb);have hc1:(ev f y).cells=#[ev f y]:=by obtain⟨⟨q,first,cap,e⟩,_⟩:=hvF;rw[e];rfl
    have hone:(ev f y).oneCell'=true:=by obtain⟨⟨q,first,cap,e⟩,_⟩:=hvF;rw[e];rfl
    have hcs:arr.size=1:=by have:=hf.len;simp at this;omega
    obtain⟨w',row,k1,k2,k3,k4⟩:=storeCells (o:=0) ht hst (by rw[hc1];rfl) (by rw[hc1];simpa using hone) (by omega);obtain⟨e2,s2⟩:=k3.freeze;have hle:Le g {g with I:=λc=>g.I c∨∃p∈[(b',Obj.cells row e (0,0))],p.1=c,w:=w'}:=⟨k2.trans e2,Nat.le_refl _,λ_ _=>rfl,rfl⟩
    have hrow:row=#[ev f y]:=by
     apply Array.toList_inj.1;rw[k4,hc1];have:arr.toList.length=1:=by simpa using hcs
     simp [List.drop_eq_nil_of_le,this,hcs]
    refine Uj (by simp [execOp,show ev f (.tmp p)=_ from hv,k1]) (next undef (.val undef) (({c with sg:=Kc c.sg i}:Cf Y).set p (.fbx as rs F)) {g with I:=λc=>g.I c∨∃p∈[(b',Obj.cells row e (0,0))],p.1=c,w:=w'} AH A2 hle ⟨h.n,h.le.trans hle.ext,s2,h.hr.mono hle,hsg.mono hle,h.hs.mono hle,hle.pt h.pt,λj a hj=>?_⟩ rfl hk);by_cases hjp:p=j
    .subst hjp;have:a=.fbx as rs F:=by have hj:(if p=p then some (AV.fbx as rs F) else lkF c.fr p)=some a:=hj;rw[if_pos rfl]at hj;exact(Option.some.inj hj).symm
     subst this;refine⟨b',0,ev f y,FvR.mono Y hle.ext hvF,⟨rfl,λj hj=>?_⟩,.inr ⟨_,List.mem_singleton.2 rfl,rfl⟩,hv⟩;have hb2:=(k3.own _ (List.mem_append_left _ (List.mem_singleton.2 rfl))).1;rw[hc1]at hj ⊢;have hj0:j=0:=by simpa using hj
     subst hj0;subst hrow;rw[B6 hb2]
    .have hj:(if p=j then some (AV.fbx as rs F) else lkF c.fr j)=some a:=hj;rw[if_neg hjp]at hj;exact(h.fr j a hj).mono hle
   .cases hz
  .cases hz
 .cases hz
def xop(E:Env Y)(o:Oper)(c:Cf Y)(k:Cf Y->Prop):Prop:=
 let K:AV Y->Cf Y->Prop:=λa c'=>c'.put E.N o.dst a k
 match o.op with
 | .load t x=>match evA c x with
  |some (.del T d off)=>ldD t T d off λa=>K a c
  |some (.fbx as rs F)=>chk (tyB Y.P t false 1) (K (.fn as rs F) c)
  |some a=>match inD o.dst E.tk with
   |true=>match inD o.dst E.tw with
    |true=>Anu c t a λa c=>tkW c t a K
    |false=>Anu c t a λa c=>rdX (Awc c) t (hpB a) λb=>K b (Awc c)
   |false=>Anu c t a λa c=>rdX (Ae3 c t a) t a λb=>K b (Ae3 c t a)
  |none=>False
 | .store t x y=>match stF E c t x y with
  |some z=>z λc'=>K (.val undef) c'
  |none=>match evA c x with
   |some a=>match A9p a with
    |true=>match evA (W6 c y) y with
     |some b=>stX (W6 c y) t a b λc'=>K (.val undef) c'
     |none=>False
    |false=>Anu c t a λa c=>match evA c y with
     |some b=>stX c t a b λc'=>K (.val undef) c'
     |none=>False
   |none=>False
 | .box e x=>match inD o.dst E.im with
  |true=>match evA (W6 c x) x with
   |some a=>match E.fty e with
    |none=>A6s (W6 c x) e a K
    |some _=>A6t E.sigs E.fty (W6 c x) e a K
   |none=>False
  |false=>A2b c (lkD E.pr o.dst) λc=>match evA c x with
   |some a=>A6v c (lkD E.pr o.dst) a K
   |none=>False
 | .alloc e=>A2b c (lkD E.pr o.dst) λc=>A65 c (lkD E.pr o.dst) e K
 | .buildSlice t n ps=>A6u (Akg c (ps.toList.map (·.2))) t n ps K
 | .makeSlice t x y=>mkX c t x y K
 | .makeFunc q fs cs=>mfX (Akg c cs.toList) q fs cs K
 | .slice t x lo hi mx=>slX c t x lo hi mx K
 | .makeMap t none=>match Y.ty t with
  |some .mref=>A8h c t K
  |_=>mkM c t K
 | .lookup t x y b=>match Aye c x with
  |true=>luR c t x y b K
  |false=>luX c t x y b K
 | .mapUpdate t x y z=>match Aye c x with
  |true=>upR (W6 c z) t x y z K
  |false=>upM (W6 c z) t x y z K
 | .insert t x y z=>match Aye c x with
  |true=>upR (W6 c z) t x y z K
  |false=>upM (W6 c z) t x y z K
 | .call ⟨.builtin .delete,⟨[x,y]⟩,⟨t::ts⟩⟩=>match Aye c x with
  |true=>dlR c t x y K
  |false=>dlM c t x y K
 | .call ⟨.builtin .len,⟨[x]⟩,⟨t::ts⟩⟩=>match Aye c x,A9o c x with
  |true,_=>lnR c t x K
  |false,true=>lnM c t x K
  |false,false=>vop c (.call ⟨.builtin .len,⟨[x]⟩,⟨t::ts⟩⟩) K
 | .build t ps=>vop (As7 c t ps) (.build t ps) K
 | .makeInterface t x=>vop (W6 c x) (.makeInterface t x) K
 | .call ⟨.builtin .copy,⟨[x,y]⟩,⟨[t,_]⟩⟩=>cpX c t x y K
 | .call ⟨.builtin .clear,⟨[x]⟩,⟨[t]⟩⟩=>A6n c t x K
 | .call ⟨.builtin .append,⟨[x,y]⟩,⟨[t,u]⟩⟩=>chk (Nat.beq t u) (A63 c t x y K)
 | .call ⟨.value cl,as,at_⟩=>match pfC E (.call ⟨.value cl,as,at_⟩) with
  |some r=>pcX c r K
  |none=>match ilC E.il cl with
   |some r=>match c.op,inD o.dst E.oc with
    |some op,true=>ilO E.X c op r as K
    |_,_=>cls c λc=>ilX E.X c r as K
   |none=>match (Ayp E.sigs c cl as.toList).op,inD o.dst E.oc,cl with
    |some op,true,.func q=>Azk E.sigs E.X (Ayp E.sigs c cl as.toList) op q as K
    |_,_,_=>cls (Ayp E.sigs c cl as.toList) λc=>Azi E.sigs E.X c cl as K
 | .binOp bo t x y u=>match inD o.dst E.wr with
  |true=>wrX c bo x y K
  |false=>vop c (.binOp bo t x y u) K
 | .panic x=>cls c λc=>match evA c x,c.op with
  |some (.ifc t T d),none=>E.X t ⟨T,d⟩ c.H
  |_,_=>False
 |op=>vop c op K
variable {o:Oper} {ops:Array Oper}
theorem Apy(h:RG g0 T c f g AH A){k:Cf Y->Prop}(hg:o.guard=none)(hx:xop E o c k){R:List PanicEntry->World->Prop}{K:Fr->World->Prop}{os:List Oper}(hR:Kz g0 T E.X R)(next:∀c' f' g' AH' A',Le g g'->RG g0 T c' f' g' AH' A'->k c'->WL Y.P E.N ops R false K os f' g'.w):WL Y.P E.N ops R false K (o::os) f g.w:=by
 obtain⟨dst,op,ty,pos,af,gd⟩:=o;simp only at hg;subst hg;have fin:∀{g1:Gst},Le g g1->∀v a c' g' AH' A',Le g1 g'->RG g0 T c' f g' AH' A'->AR g' a v->c'.put E.N dst a k->WL Y.P E.N ops R false K os (Go.X.put E.N f dst v) g'.w:=λ{g1}hle1 v a c' g' AH' A' hle hr ha hk=>by obtain⟨c2,g2,k1,k2,k3,k4,k5⟩:=hr.put ha hk;rw[<-k2];exact next c2 _ g2 _ _ ((hle1.trans hle).trans k4) k5 k1
 have eff:∀{c1:Cf Y}{g1:Gst}{AH A1:Own},g1.w=g.w->Le g g1->RG g0 T c1 f g1 AH A1->∀{op:Op},Eff g0 T f g1.w op (λa c'=>c'.put E.N dst a k) g1->WL Y.P E.N ops R false K (⟨dst,op,ty,pos,af,none⟩::os) f g.w:=λhw hle hr op he=>by rw[<-hw];exact he E.N ops R K os dst ty pos af (fin hle)
 have val:∀{c1:Cf Y}{g1:Gst}{A1:Own},g1.w=g.w->Le g g1->RG g0 T c1 f g1 AH A1->∀{op:Op},vop c1 op (λa c'=>c'.put E.N dst a k)->WL Y.P E.N ops R false K (⟨dst,op,ty,pos,af,none⟩::os) f g.w:=λhw hle hr op hv=>by obtain⟨v,a,c',g',h1,hw',hle',h2,h3,h4⟩:=Ap2 (ty:=ty) hr hv;rw[<-hw];refine Ax (h4 _ (Sx.refl _) dst pos af none) ?_;have:=fin hle v a c' _ AH _ hle' h2 h3 h1;rwa [hw']at this
 unfold xop at hx;simp only at hx;split at hx
 .split at hx
  .rename_i ha;obtain⟨b,off,u,h1,h2,h3,h4⟩:=h.ev ha;obtain⟨v,a,h5,h6,h7⟩:=Aqs (ty:=ty) (k:=λa=>c.put E.N dst a k) hx h1 h2 h3 h4;exact Ax (h7 _ (Sx.refl _) dst pos af none) (fin (Le.refl _) v a c g AH A (Le.refl _) h h6 h5)
  .rename_i as rs F ha;obtain⟨ht,hx⟩:=Bj hx;obtain⟨v,h1,h2⟩:=Ax8 (ty:=ty) ht (h.ev ha);exact Ax (h2 _ (Sx.refl _) dst pos af none) (fin (Le.refl _) v _ c g AH A (Le.refl _) h h1 hx)
  .rename_i a _ _ ha;split at hx
   .split at hx
    .obtain⟨a,c0,g0',AH0,A0,hx,hw0,hle0,hr0,ha0⟩:=Xw h hx (h.ev ha);obtain⟨v,b,c1,A1,h5,h6,h7,hr⟩:=A3v (ty:=ty) hr0 hx ha0;rw[<-hw0];exact Ax (h7 dst pos af none) (fin hle0 v b _ g0' AH0 A1 (Le.refl _) hr h6 h5)
    obtain⟨a,c0,g0',AH0,A0,hx,hw0,hle0,hr0,ha0⟩:=Xw h hx (h.ev ha);obtain⟨g1,A1,hw,hle,hr⟩:=A0i hr0;obtain⟨v,b,h5,h6,h7⟩:=Agb (ty:=ty) (k:=λb=>(Awc c0).put E.N dst b k) hr hx (Ayh (ha0.mono hle));rw[<-hw0,<-hw];exact Ax (h7 dst pos af none) (fin (hle0.trans hle) v b _ g1 AH0 A1 (Le.refl _) hr h6 h5)
   obtain⟨a,c0,g0',AH0,A0,hx,hw0,hle0,hr0,ha0⟩:=Xw h hx (h.ev ha);obtain⟨g1,A1,hw,hle,hr⟩:=Afl hr0 _ a;obtain⟨v,b,h5,h6,h7⟩:=Agb (ty:=ty) (k:=λb=>(Ae3 c0 _ a).put E.N dst b k) hr hx (ha0.mono hle);rw[<-hw0,<-hw];exact Ax (h7 dst pos af none) (fin (hle0.trans hle) v b _ g1 AH0 A1 (Le.refl _) hr h6 h5)
  .exact hx.elim
 .split at hx
  .rename_i z hz;exact eff rfl (Le.refl _) h (A3z (kk:=λa c'=>c'.put E.N dst a k) h hz hx)
  .split at hx
   .rename_i a ha;split at hx
    .split at hx
     .rename_i b hb;obtain⟨g1,A1,hw,hle,hr⟩:=Pn h _;exact eff hw hle hr (Awh (kk:=λa c'=>c'.put E.N dst a k) hr hx ((h.ev ha).mono hle) (hr.ev hb))
     .exact hx.elim
    .obtain⟨a,c0,g1,AH0,A0,hx,hw0,hle0,hr0,ha0⟩:=Xw h hx (h.ev ha);split at hx
     .rename_i b hb;exact eff hw0 hle0 hr0 (Awh (kk:=λa c'=>c'.put E.N dst a k) hr0 hx ha0 (hr0.ev hb))
     .exact hx.elim
   .exact hx.elim
 .split at hx
  .split at hx
   .rename_i a ha;obtain⟨g1,A1,hw,hle,hr⟩:=Pn h _;split at hx
    .exact eff hw hle hr (A2g hr hx (hr.ev ha))
    .exact eff hw hle hr (A2h hr hx (hr.ev ha))
   .exact hx.elim
  .obtain⟨c1,g1,AH1,A1,hx,hw,hle,hr⟩:=Atm h hx;split at hx
   .rename_i a ha;exact eff hw hle hr (A2j hr hx (hr.ev ha))
   .exact hx.elim
 .obtain⟨c1,g1,AH1,A1,hx,hw,hle,hr⟩:=Atm h hx;exact eff hw hle hr (A2q hr hx)
 .obtain⟨g1,A1,hw,hle,hr⟩:=W5 _ h;exact eff hw hle hr (A2i hr hx)
 .exact eff rfl (Le.refl _) h (A5b h hx)
 .obtain⟨g1,A1,hw,hle,hr⟩:=W5 _ h;exact eff hw hle hr (A5e hr hx)
 .exact eff rfl (Le.refl _) h (A31 h hx)
 .split at hx
  .exact eff rfl (Le.refl _) h (A1c h hx)
  .exact eff rfl (Le.refl _) h (A5c h hx)
 .split at hx
  .exact eff rfl (Le.refl _) h (A5g h hx)
  .exact eff rfl (Le.refl _) h (A5f h hx)
 .obtain⟨g1,A1,hw,hle,hr⟩:=Pn h _;split at hx
  .exact eff hw hle hr (Av6 hr hx)
  .exact eff hw hle hr (Av7 hr hx)
 .obtain⟨g1,A1,hw,hle,hr⟩:=Pn h _;split at hx
  .exact eff hw hle hr (Av6 hr hx).ins
  .exact eff hw hle hr (Av7 hr hx).ins
 .split at hx
  .exact eff rfl (Le.refl _) h (A6c h rfl hx)
  .exact eff rfl (Le.refl _) h (A6d h rfl hx)
 .split at hx
  .exact eff rfl (Le.refl _) h (A5h h rfl hx)
  .exact eff rfl (Le.refl _) h (A5i h rfl hx)
  .exact val rfl (Le.refl _) h hx
 .obtain⟨g1,A1,hw,hle,hr⟩:=Aou h _ _;exact val hw hle hr hx
 .obtain⟨g1,A1,hw,hle,hr⟩:=Pn h _;exact val hw hle hr hx
 .exact eff rfl (Le.refl _) h (A6h h hx)
 .exact eff rfl (Le.refl _) h (A2c h hx)
 .replace hx:=Bj hx;obtain⟨ht,hx⟩:=hx;have ht:=Nat.eq_of_beq_eq_true ht;subst ht;exact eff rfl (Le.refl _) h (A2p h hx)
 .rename_i cl as at_
  split at hx
  .rename_i r hr;obtain⟨at2,he⟩:=Aqh hr;cases he;obtain⟨v,a,c',g',k1,k2,k3,k4,k5,k6⟩:=Aqi h hx;refine Agp r.2.1.can rfl (Calls.mono (k6 g.w (Sx.refl g)) λe w' he=>?_);obtain⟨rfl,rfl⟩:=he;have:=fin (Le.refl _) v a c' g' AH A k3 k4 k5 k1;rw[k2]at this;exact this
  split at hx
  .rename_i r hr;obtain rfl:=A5y hr;split at hx
   .rename_i op hop _;exact A5x h hop hx E.N ops R K os dst ty pos af hR (fin (Le.refl _))
   .obtain⟨c2,g2,AH2,A2,hx,hw2,hle2,hr2,_⟩:=Fi h hx;rw[<-hw2];exact A5w hr2 hx E.N ops R K os dst ty pos af hR (fin hle2)
  obtain⟨g1,A1,hw,hle,hr⟩:=A1v (sigs:=E.sigs) h cl as.toList;split at hx
  .rw[<-hw];exact Azj hr (by assumption) hx E.N ops R K os dst ty pos af hR (fin hle)
  obtain⟨c2,g2,AH2,A2,hx,hw2,hle2,hr2,_⟩:=Fi hr hx;rw[<-hw,<-hw2];exact Azh hr2 hx E.N ops R K os dst ty pos af hR (fin (hle.trans hle2))
 .split at hx
  .obtain⟨v,a,h1,h2,h3⟩:=A3r h hx;exact Ax (h3 ty dst pos af none) (fin (Le.refl _) v a c g AH A (Le.refl _) h h2 h1)
  .exact val rfl (Le.refl _) h hx
 .obtain⟨c2,g2,AH2,A2,hx,hw2,hle2,hr2,_⟩:=Fi h hx;split at hx
  .rename_i t T d ha hop;obtain⟨u,h1,h2⟩:=hr2.ev ha;have hH:=hr2.hr;rw[hop]at hH;rw[<-hw2];exact A01 h1 (hR _ _ g2.I AH2 c2.H t ⟨T,d⟩ u hr2.le (Fv hr2.st) hH rfl h2 hx)
  .exact hx.elim
 .exact val rfl (Le.refl _) h hx
variable {j d:Nat}
theorem A7c(hj:(ops[j]?).bind (·.dst)=some d)(hu:∀b,f d≠.bool b):yl ops f j=none:=by unfold yl;rw[hj];simp only
theorem Aji{b:Bool}(hg:o.guard=some (j,b))(hj:(ops[j]?).bind (·.dst)=some d)(hu:∀b,f d≠.bool b):Region.wanted o (yl ops f)=false:=by simp [Region.wanted,hg,A7c hj hu]
def gop(E:Env Y)(o:Oper)(b t:Bool)(c:Cf Y)(k:Cf Y->Prop):Prop:=match b,t with
 |true,true |false,false=>xop E {o with guard:=none} c k
 |_,_=>c.put E.N o.dst (.val undef) k
def Afq(E:Env Y)(ops:Array Oper):List Oper->Cf Y->(Cf Y->Prop)->Prop
 | [],c,k=>k c
 |o::os,c,k=>match o.guard with
  |none=>xop E o c λc'=>Afq E ops os c' k
  |some (j,b)=>match (ops[j]?).bind (·.dst) with
   |some d=>match A1i (lkF c.fr d) with
    |true=>c.put E.N o.dst (.val undef) λc'=>Afq E ops os c' k
    |false=>match (lkF c.fr d).bind asB with
     |some (.kn t)=>gop E o b t c λc'=>Afq E ops os c' k
     |some (.pr p _)=>(p->gop E o b true (c.set d (.val (.bool true))) λc'=>Afq E ops os c' k)/\(¬p->gop E o b false (c.set d (.val (.bool false))) λc'=>Afq E ops os c' k)
     |none=>False
   |none=>False
theorem Aqw(h:RG g0 T c f g AH A){b t:Bool}{k:Cf Y->Prop}(hg:o.guard=some (j,b))(hj:(ops[j]?).bind (·.dst)=some d)(hd:f d=.bool t)(hx:gop E o b t c k){R:List PanicEntry->World->Prop}{K:Fr->World->Prop}{os:List Oper}(hR:Kz g0 T E.X R)(next:∀c' f' g' AH' A',Le g g'->RG g0 T c' f' g' AH' A'->k c'->WL Y.P E.N ops R false K os f' g'.w):WL Y.P E.N ops R false K (o::os) f g.w:=by
 obtain⟨dst,op,ty,pos,af,gd⟩:=o;simp only at hg;subst hg;have hy:yl ops f j=some t:=by unfold yl;rw[hj];simp only[hd]
 unfold gop at hx;have yes:b=t->xop E ⟨dst,op,ty,pos,af,none⟩ c k->WL Y.P E.N ops R false K (⟨dst,op,ty,pos,af,some (j,b)⟩::os) f g.w:=λe hx=>by refine Av2 ?_ (Apy h rfl hx hR next);subst e;simp [Region.wanted,hy]
 have no:b≠t->c.put E.N dst (.val undef) k->WL Y.P E.N ops R false K (⟨dst,op,ty,pos,af,some (j,b)⟩::os) f g.w:=λe hx=>by
  obtain⟨c2,g2,k1,k2,k3,k4,k5⟩:=h.put (a:=.val undef) (v:=undef) rfl hx;refine Art ?_ ?_
  .simp [Region.wanted,hy];exact λh=>e h.symm
  .rw[<-k2];exact next c2 _ g2 _ _ k4 k5 k1
 split at hx
 .exact yes rfl hx
 .exact yes rfl hx
 .refine no ?_ hx;cases b<;>cases t<;>first|(intro h;cases h;done)|skip
  all_goals first|(rename_i h1 h2;exact(h1 rfl rfl).elim)|(rename_i h1 h2;exact(h2 rfl rfl).elim)|(rename_i h1;exact(h1 rfl rfl).elim)
theorem Aav{E:Env Y}{g0:Gst}{T:Own}{ops:Array Oper}{R:List PanicEntry->World->Prop}{K:Fr->World->Prop}(hR:Kz g0 T E.X R){k:Cf Y->Prop}:∀(os:List Oper){g:Gst}{AH A:Own}{c:Cf Y}{f:Fr},RG g0 T c f g AH A->Afq E ops os c k->(∀c' f' g' AH' A',Le g g'->RG g0 T c' f' g' AH' A'->k c'->K f' g'.w)->WL Y.P E.N ops R false K os f g.w
 | [],g,AH,A,c,f,h,hx,next=>next c f g AH A (Le.refl _) h hx
 |o::os,g,AH,A,c,f,h,hx,next=>by
  have rest:∀c' f' g' AH' A',Le g g'->RG g0 T c' f' g' AH' A'->Afq E ops os c' k->WL Y.P E.N ops R false K os f' g'.w:=λc' f' g' AH' A' hle hr hk=>Aav hR os hr hk λc2 f2 g2 AH2 A2 hle2 hr2 hk2=>next c2 f2 g2 AH2 A2 (hle.trans hle2) hr2 hk2;unfold Afq at hx;split at hx
  .rename_i hg;exact Apy h hg hx hR rest
  .rename_i j b hg;split at hx
   .rename_i d hj;have bd:∀{p:BV},(lkF c.fr d).bind asB=some p->f d=.bool p.val:=λ{p}hp=>by
     cases hz:lkF c.fr d with
     |none=>rw[hz]at hp;cases hp
     |some a=>rw[hz]at hp;exact U4 hp (h.fr d a hz)
    split at hx
    .rename_i hu;have hu:=Ast hu λa ha=>h.fr d a ha;obtain⟨c2,g2,k1,k2,k3,k4,k5⟩:=h.put (a:=.val undef) (v:=undef) rfl hx;refine Art (Aji hg hj hu) ?_;rw[<-k2];exact rest c2 _ g2 _ _ k4 k5 k1
    split at hx
    .rename_i t ht;exact Aqw h hg hj (bd ht) hx hR rest
    .rename_i p dp ht;have hv:=bd ht;by_cases hp:p
     .have hv:f d=.bool true:=by rw[hv];show Value.bool (@decide p dp)=_;rw[@decide_eq_true p dp hp]
      exact Aqw (h.cons (a:=.val (.bool true)) hv) hg hj hv (hx.1 hp) hR rest
     .have hv:f d=.bool false:=by rw[hv];show Value.bool (@decide p dp)=_;rw[@decide_eq_false p dp hp]
      exact Aqw (h.cons (a:=.val (.bool false)) hv) hg hj hv (hx.2 hp) hR rest
    .exact hx.elim
   .exact hx.elim
end
end
section
section
variable {Y:Sys}
def S1D(Y:Sys):Sh1->Type
 | .dat t=>den Y.D t
 | .own t=>List (den Y.D t)
def L1D(Y:Sys):List Sh1->Type
 | []=>Unit
 |s::l=>S1D Y s×L1D Y l
def ShD(Y:Sys):Sh->Type
 | .one s=>S1D Y s
 | .nat=>Nat
 | .map k e=>List (den Y.D k×den Y.D e)
 | .blk l=>L1D Y l
def VT(Y:Sys):List (Nat×Sh)->Type
 | []=>Unit
 |p::l=>ShD Y p.2×VT Y l
def S1R(I:Reg)(w:World):(s:Sh1)->S1D Y s->Value->Own->Prop
 | .dat t,x,v,A=>rp Y.toUS t I w v x/\A=[]
 | .own t,x,v,A=>OSl Y t I w A v x
def L1R(I:Reg)(w:World):(l:List Sh1)->L1D Y l->List Value->Own->Prop
 | [],_,vs,A=>vs=[]/\A=[]
 |s::l,x,vs,A=>∃v vs' A1 A2,vs=v::vs'/\A=A1++A2/\v.oneCell'=true/\S1R I w s x.1 v A1/\L1R I w l x.2 vs' A2
def Bam(x:Nat)(v:Value)(A:Own):Prop:=v=.int .i64 (x:Int)/\x<=9223372036854775807/\A=[]
def ShR(I:Reg)(w:World):(s:Sh)->ShD Y s->Value->Own->Prop
 | .one s,x,v,A=>S1R I w s x v A
 | .nat,x,v,A=>Bam x v A
 | .map k e,x,v,A=>OMp Y k e I w A v x
 | .blk l,x,v,A=>∃b arr e A',A=(b,.cells arr e (0,0))::A'/\v=.pointer (some ⟨b,0,none⟩)/\L1R I w l x arr.toList A'
def VTR(I:Reg)(w:World)(f:Fr):(l:List (Nat×Sh))->VT Y l->Own->Prop
 | [],_,A=>A=[]
 |p::l,x,A=>∃A1 A2,A=A1++A2/\ShR I w p.2 x.1 (f p.1) A1/\VTR I w f l x.2 A2
def Au8:(s:Sh1)->AV Y->List (Nat×Seg Y)->Option (S1D Y s×List (Nat×Seg Y))
 | .dat t,a,sg=>match asD t a with
  |some x=>some (x,sg)
  |none=>none
 | .own t,.own i,sg=>match lkS sg i with
  |some (.sl T xs)=>match Ty.dec T t with
   | .isTrue h=>some ((h▸xs:List (den Y.D t)),Kc sg i)
   | .isFalse _=>none
  |_=>none
 | .own _,.val (.slice none 0 0),sg=>some ([],sg)
 | .own _,_,_=>none
variable {g:Gst} {v:Value} {A:Own}
theorem Afk{s:Sh1}{a:AV Y}{sg:List (Nat×Seg Y)}{r:S1D Y s×List (Nat×Seg Y)}(h:Au8 s a sg=some r)(hs:SgR g sg A)(ha:AR g a v):∃A1 A2,A.Perm (A1++A2)/\S1R g.I g.w s r.1 v A1/\SgR g r.2 A2:=by
 unfold Au8 at h;split at h
 .split at h
  .rename_i x hx;cases h;exact⟨[],A,List.Perm.refl _,⟨E2 hx ha,rfl⟩,hs⟩
  .cases h
 .split at h
  .rename_i T xs hi;split at h
   .rename_i e _;subst e;cases h;obtain⟨A1,A2,h1,h2,h3,h4⟩:=hs.take hi;refine⟨A1,A2,h1,?_,h4⟩;show OSl Y T _ _ _ v _;rw[ha.2];exact h3
   .cases h
  .cases h
 .cases h;obtain rfl:v=_:=ha;exact⟨[],A,List.Perm.refl _,@Cc.nil _ (RT Y.toUS _) _ _,hs⟩
 .cases h
def Au7:(l:List Sh1)->List (AV Y)->List (Nat×Seg Y)->Option (L1D Y l×List (Nat×Seg Y))
 | [],[],sg=>some ((),sg)
 |s::l,a::as,sg=>match Au8 s a sg with
  |some r=>match Au7 l as r.2 with
   |some q=>some ((r.1,q.1),q.2)
   |none=>none
  |none=>none
 |_,_,_=>none
theorem Asz{g:Gst}:∀{l:List Sh1}{as:List (AV Y)}{vs:List Value}{sg:List (Nat×Seg Y)}{A:Own}{r:L1D Y l×List (Nat×Seg Y)},Au7 l as sg=some r->SgR g sg A->F2 (λa v=>AR g a v/\v.oneCell'=true) as vs->∃A1 A2,A.Perm (A1++A2)/\L1R g.I g.w l r.1 vs A1/\SgR g r.2 A2
 | [],[],_,sg,A,r,h,hs,.nil=>by cases h;exact⟨[],A,List.Perm.refl _,⟨rfl,rfl⟩,hs⟩
 |s::l,a::as,v::vs,sg,A,r,h,hs,.cons h1 h2=>by
  unfold Au7 at h;split at h
  .rename_i r1 hr1;split at h
   .rename_i q hq;cases h;obtain⟨B1,B2,k1,k2,k3⟩:=Afk hr1 hs h1.1;obtain⟨A1,A2,k4,k5,k6⟩:=Asz hq k3 h2;exact⟨B1++A1,A2,perm_cons k1 k4,⟨v,vs,B1,A1,rfl,rfl,h1.2,k2,k5⟩,k6⟩
   .cases h
  .cases h
 | [],_::_,_,_,_,_,h,_,_=>by simp [Au7]at h
 |_::_,[],_,_,_,_,h,_,_=>by simp [Au7]at h
def A8m:AV Y->List (Nat×Seg Y)->Option (Nat×List (Nat×Seg Y))
 | .nat j,sg=>some (j,sg)
 | .val (.int .i64 (.ofNat j)),sg=>match Nat.ble j 9223372036854775807 with
  |true=>some (j,sg)
  |false=>none
 |_,_=>none
def getM(k e:Ty):AV Y->List (Nat×Seg Y)->Option (List (den Y.D k×den Y.D e)×List (Nat×Seg Y))
 | .own i,sg=>match lkS sg i with
  |some (.mp k' e' m)=>match Ty.dec k' k,Ty.dec e' e with
   | .isTrue h,.isTrue h'=>some ((h▸h'▸m:List (den Y.D k×den Y.D e)),Kc sg i)
   |_,_=>none
  |_=>none
 |_,_=>none
def A8n(l:List Sh1):AV Y->List (Nat×Seg Y)->Option (L1D Y l×List (Nat×Seg Y))
 | .adr i 0,sg=>match lkS sg i with
  |some (.blk cs)=>Au7 l cs (Kc sg i)
  |_=>none
 |_,_=>none
def Aym:(s:Sh)->AV Y->List (Nat×Seg Y)->Option (ShD Y s×List (Nat×Seg Y))
 | .one s,a,sg=>Au8 s a sg
 | .nat,a,sg=>A8m a sg
 | .map k e,a,sg=>getM k e a sg
 | .blk l,a,sg=>A8n l a sg
variable {s:Sh}
theorem Amc{a:AV Y}{sg:List (Nat×Seg Y)}{r:ShD Y s×List (Nat×Seg Y)}(h:Aym s a sg=some r)(hs:SgR g sg A)(ha:AR g a v):∃A1 A2,A.Perm (A1++A2)/\ShR g.I g.w s r.1 v A1/\SgR g r.2 A2:=by
 cases s with
 |one s=>exact Afk h hs ha
 |nat=>
  simp only[Aym]at h;unfold A8m at h;split at h
  .cases h;exact⟨[],A,List.Perm.refl _,⟨ha.1,ha.2,rfl⟩,hs⟩
  .split at h
   .rename_i hb;cases h;exact⟨[],A,List.Perm.refl _,⟨ha,Nat.le_of_ble_eq_true hb,rfl⟩,hs⟩
   .cases h
  .cases h
 |map k e=>
  simp only[Aym]at h;unfold getM at h;split at h
  .split at h
   .rename_i k' e' m hi;split at h
    .rename_i ek ee _ _;subst ek ee;cases h;obtain⟨A1,A2,h1,h2,h3,h4⟩:=hs.take hi;refine⟨A1,A2,h1,?_,h4⟩;show OMp Y _ _ _ _ _ v _;rw[ha.2];exact h3
    .cases h
   .cases h
  .cases h
 |blk l=>
  simp only[Aym]at h;unfold A8n at h;split at h
  .split at h
   .rename_i cs hi;obtain⟨A1,A2,h1,h2,⟨b,arr,e,rfl,h3,h4⟩,h5⟩:=hs.take hi;obtain⟨B1,B2,k1,k2,k3⟩:=Asz h h5 h4;obtain⟨_,b',h6,h7⟩:=ha;rw[h3]at h6;cases h6;exact⟨(b,.cells arr e (0,0))::B1,B2,perm_cons h1 k1,⟨b,arr,e,B1,rfl,h7,k2⟩,k3⟩
   .cases h
  .cases h
def Aqy(fr:List (Nat×AV Y)):(l:List (Nat×Sh))->List (Nat×Seg Y)->Option (VT Y l×List (Nat×Seg Y))
 | [],sg=>some ((),sg)
 |p::l,sg=>match lkF fr p.1 with
  |some a=>match Aym p.2 a sg with
   |some r=>match Aqy fr l r.2 with
    |some q=>some ((r.1,q.1),q.2)
    |none=>none
   |none=>none
  |none=>none
theorem Amb{g:Gst}{f:Fr}{fr:List (Nat×AV Y)}(hfr:∀i a,lkF fr i=some a->AR g a (f i)):∀{l:List (Nat×Sh)}{sg:List (Nat×Seg Y)}{A:Own}{r:VT Y l×List (Nat×Seg Y)},Aqy fr l sg=some r->SgR g sg A->∃A1 A2,A.Perm (A1++A2)/\VTR g.I g.w f l r.1 A1/\SgR g r.2 A2
 | [],sg,A,r,h,hs=>by cases h;exact⟨[],A,List.Perm.refl _,rfl,hs⟩
 |p::l,sg,A,r,h,hs=>by
  unfold Aqy at h;split at h
  .rename_i a ha;split at h
   .rename_i r1 hr1;split at h
    .rename_i q hq;cases h;obtain⟨B1,B2,k1,k2,k3⟩:=Amc hr1 hs (hfr _ _ ha);obtain⟨A1,A2,k4,k5,k6⟩:=Amb hfr hq k3;exact⟨B1++A1,A2,perm_cons k1 k4,⟨B1,A1,rfl,k2,k5⟩,k6⟩
    .cases h
   .cases h
  .cases h
def Awy:(s:Sh1)->S1D Y s->Nat->AV Y×List (Nat×Seg Y)×Nat
 | .dat .ptr,x,n=>(.ptr n x,[],n+1)
 | .dat (.int k),x,n=>(.dat (.int k) x,[],n)
 | .dat .bool,x,n=>(.dat .bool x,[],n)
 | .dat .str,x,n=>(.dat .str x,[],n)
 | .dat .mref,x,n=>(.dat .mref x,[],n)
 | .dat (.sl e),x,n=>(.dat (.sl e) x,[],n)
 | .dat (.u m),x,n=>(.dat (.u m) x,[],n)
 | .own t,x,n=>(.own n,[(n,.sl t x)],n+1)
theorem Asa{s:Sh1}{x:S1D Y s}(h:S1R g.I g.w s x v A):∃g',Le g g'/\g'.w=g.w/\g'.I=g.I/\g'.n=(Awy s x g.n).2.2/\AR g' (Awy s x g.n).1 v/\SgR g' (Awy s x g.n).2.1 A:=by
 have named:=Le.new (g:=g) (v:=v) (Ext.refl g.I g.w);cases s with
 |own t=>
  refine⟨g.new g.w v,named,rfl,rfl,rfl,J0 rfl,A,[],by simp,Nat.lt_succ_self _,?_,rfl⟩;show OSl Y t _ _ _ _ _;rw[g.Cz];exact h
 |dat t=>
  obtain⟨h,rfl⟩:=h;cases t with
  |ptr=>exact⟨g.new g.w v,named,rfl,rfl,rfl,⟨Nat.lt_succ_self _,g.Cz _ _,Re.1 h⟩,rfl⟩
  |_=>exact⟨g,Le.refl _,rfl,rfl,rfl,h,rfl⟩
def Awx:(l:List Sh1)->L1D Y l->Nat->List (AV Y)×List (Nat×Seg Y)×Nat
 | [],_,n=>([],[],n)
 |s::l,x,n=>let r:=Awy s x.1 n;let q:=Awx l x.2 r.2.2;(r.1::q.1,r.2.1++q.2.1,q.2.2)
theorem Ar9:∀{l:List Sh1}{x:L1D Y l}{g:Gst}{vs:List Value}{A:Own},L1R g.I g.w l x vs A->∃g',Le g g'/\g'.w=g.w/\g'.I=g.I/\g'.n=(Awx l x g.n).2.2/\F2 (λa v=>AR g' a v/\v.oneCell'=true) (Awx l x g.n).1 vs/\SgR g' (Awx l x g.n).2.1 A
 | [],x,g,vs,A,⟨h1,h2⟩=>by subst h1 h2;exact⟨g,Le.refl _,rfl,rfl,rfl,.nil,rfl⟩
 |s::l,x,g,vs,A,⟨v,vs',A1,A2,h1,h2,h3,h4,h5⟩=>by subst h1 h2;obtain⟨g1,a1,a2,a3,a4,a5,a6⟩:=Asa h4;obtain⟨g2,b1,b2,b3,b4,b5,b6⟩:=Ar9 (g:=g1) (x:=x.2) (by rw[a3,a2];exact h5);rw[a4]at b4 b5 b6;exact⟨g2,a1.trans b1,b2.trans a2,b3.trans a3,b4,.cons ⟨a5.mono b1,h3⟩ b5,(a6.mono b1).app b6⟩
def Anw:(s:Sh)->ShD Y s->Nat->AV Y×List (Nat×Seg Y)×Nat
 | .one s,x,n=>Awy s x n
 | .nat,x,n=>(.nat x,[],n)
 | .map k e,x,n=>(.own n,[(n,.mp k e x)],n+1)
 | .blk l,x,n=>let q:=Awx l x (n+1);(.adr n 0,(n,.blk q.1)::q.2.1,q.2.2)
theorem Abh{x:ShD Y s}(h:ShR g.I g.w s x v A):∃g',Le g g'/\g'.w=g.w/\g'.I=g.I/\g'.n=(Anw s x g.n).2.2/\AR g' (Anw s x g.n).1 v/\SgR g' (Anw s x g.n).2.1 A:=by
 have named:=Le.new (g:=g) (v:=v) (Ext.refl g.I g.w);cases s with
 |one s=>exact Asa h
 |nat=>obtain⟨h1,h2,rfl⟩:=h;exact⟨g,Le.refl _,rfl,rfl,rfl,⟨h1,h2⟩,rfl⟩
 |map k e=>
  refine⟨g.new g.w v,named,rfl,rfl,rfl,J0 rfl,A,[],by simp,Nat.lt_succ_self _,?_,rfl⟩;show OMp Y _ _ _ _ _ _ _;rw[g.Cz];exact h
 |blk l=>
  obtain⟨b,arr,e,A',rfl,rfl,h3⟩:=h;obtain⟨g2,b1,b2,b3,b4,b5,b6⟩:=Ar9 (g:=g.new g.w (.pointer (some ⟨b,0,none⟩))) h3;have hn:g.n<(g.new g.w (.pointer (some ⟨b,0,none⟩))).n:=Nat.lt_succ_self _;have hμ:g2.μ g.n=.pointer (some ⟨b,0,none⟩):=by rw[b1.μ _ hn,g.Cz]
  refine⟨g2,named.trans b1,b2,b3,b4,⟨Nat.lt_of_lt_of_le hn b1.n,b,hμ,rfl⟩,[(b,.cells arr e (0,0))],A',rfl,Nat.lt_of_lt_of_le hn b1.n,⟨b,arr,e,rfl,hμ,b5⟩,b6⟩
def rnm(fr:List (Nat×AV Y))(kp:List Nat)(t:Nat):Option Nat:=match inN t kp,lkF fr t with
 |true,some (.own i)=>some i
 |_,_=>none
def A0w(rn:Option Nat):(s:Sh)->ShD Y s->Nat->AV Y×List (Nat×Seg Y)×Nat
 | .one (.own t),x,n=>match rn with
  |some i=>(.own i,[(i,.sl t x)],n)
  |none=>Anw (.one (.own t)) x n
 | .one (.dat t),x,n=>Anw (.one (.dat t)) x n
 | .nat,x,n=>Anw .nat x n
 | .map k e,x,n=>match rn with
  |some i=>(.own i,[(i,.mp k e x)],n)
  |none=>Anw (.map k e) x n
 | .blk l,x,n=>Anw (.blk l) x n
theorem A0v{rn:Option Nat}{x:ShD Y s}(hn:∀i,rn=some i->i<g.n/\g.μ i=v)(h:ShR g.I g.w s x v A):∃g',Le g g'/\g'.w=g.w/\g'.I=g.I/\g'.n=(A0w rn s x g.n).2.2/\AR g' (A0w rn s x g.n).1 v/\SgR g' (A0w rn s x g.n).2.1 A:=by
 cases s with
 |one s=>
  cases s with
  |dat t=>exact Abh h
  |own t=>
   cases rn with
   |none=>exact Abh h
   |some i=>
    obtain⟨h1,h2⟩:=hn i rfl;refine⟨g,Le.refl _,rfl,rfl,rfl,⟨h1,h2.symm⟩,A,[],by simp,h1,?_,rfl⟩;show OSl Y t _ _ _ _ _;rw[h2];exact h
 |nat=>exact Abh h
 |map k e=>
  cases rn with
  |none=>exact Abh h
  |some i=>
   obtain⟨h1,h2⟩:=hn i rfl;refine⟨g,Le.refl _,rfl,rfl,rfl,⟨h1,h2.symm⟩,A,[],by simp,h1,?_,rfl⟩;show OMp Y _ _ _ _ _ _ _;rw[h2];exact h
 |blk l=>exact Abh h
def Alk(fr:List (Nat×AV Y))(kp:List Nat):(l:List (Nat×Sh))->VT Y l->Nat->List (Nat×AV Y)×List (Nat×Seg Y)×Nat
 | [],_,n=>([],[],n)
 |p::l,x,n=>let r:=A0w (rnm fr kp p.1) p.2 x.1 n;let q:=Alk fr kp l x.2 r.2.2;((p.1,r.1)::q.1,r.2.1++q.2.1,q.2.2)
theorem Alj{f:Fr}{fr:List (Nat×AV Y)}{kp:List Nat}:∀{l:List (Nat×Sh)}{x:VT Y l}{g:Gst}{A:Own},(∀t i,rnm fr kp t=some i->i<g.n/\g.μ i=f t)->VTR g.I g.w f l x A->∃g',Le g g'/\g'.w=g.w/\g'.I=g.I/\g'.n=(Alk fr kp l x g.n).2.2/\(∀i a,lkF (Alk fr kp l x g.n).1 i=some a->AR g' a (f i))/\SgR g' (Alk fr kp l x g.n).2.1 A
 | [],x,g,A,hn,h=>by cases h;exact⟨g,Le.refl _,rfl,rfl,rfl,by intro i a h;simp [Alk,lkF]at h,rfl⟩
 |p::l,x,g,A,hn,⟨A1,A2,h1,h2,h3⟩=>by
  subst h1;obtain⟨g1,a1,a2,a3,a4,a5,a6⟩:=A0v (hn p.1) h2;obtain⟨g2,b1,b2,b3,b4,b5,b6⟩:=Alj (g:=g1) (x:=x.2) (λt i hi=>by obtain⟨k1,k2⟩:=hn t i hi;exact⟨Nat.lt_of_lt_of_le k1 a1.n,by rw[a1.μ i k1];exact k2⟩) (by rw[a3,a2];exact h3)
  rw[a4]at b4 b5 b6;refine⟨g2,a1.trans b1,b2.trans a2,b3.trans a3,b4,λi a hi=>?_,(a6.mono b1).app b6⟩;unfold Alk lkF at hi;simp only at hi;by_cases he:p.1=i
  .rw[if_pos he]at hi;cases hi;subst he;exact a5.mono b1
  .rw[if_neg he]at hi;exact b5 i a hi
def A8b:AV Y->Bool
 | .own _ | .adr _ _ | .el _ _ _ _ | .sub _ _ _=>false
 |_=>true
def Aef(fr:List (Nat×AV Y)):List Nat->List (Nat×AV Y)
 | []=>[]
 |t::l=>match lkF fr t with
  |some a=>match A8b a with
   |true=>(t,a)::Aef fr l
   |false=>Aef fr l
  |none=>Aef fr l
theorem Ag4{fr:List (Nat×AV Y)}{i:Nat}{a:AV Y}:∀{l:List Nat},lkF (Aef fr l) i=some a->lkF fr i=some a/\inN i l=true
 | [],h=>by simp [Aef,lkF]at h
 |t::l,h=>by
  have rest:lkF (Aef fr l) i=some a->lkF fr i=some a/\inN i (t::l)=true:=λh=>by obtain⟨h1,h2⟩:=Ag4 h;exact⟨h1,by simp [inN,h2]⟩
  unfold Aef at h;split at h
  .rename_i b hb;split at h
   .unfold lkF at h;by_cases he:t=i
    .simp only[if_pos he]at h;cases h;subst he;exact⟨hb,by simp [inN]⟩
    .simp only[if_neg he]at h;exact rest h
   .exact rest h
  .exact rest h
theorem Al5{i:Nat}{a:AV Y}:∀{l m:List (Nat×AV Y)},lkF (l++m) i=some a->lkF l i=some a∨lkF m i=some a
 | [],_,h=>.inr h
 |p::l,m,h=>by
  have h:(if p.1=i then some p.2 else lkF (l++m) i)=some a:=h;show (if p.1=i then some p.2 else lkF l i)=some a∨_;by_cases he:p.1=i
  .rw[if_pos he]at h ⊢;exact .inl h
  .rw[if_neg he]at h ⊢;exact Al5 h
def hdC(c:Cf Y)(la:LA)(x:VT Y la.vars)(H:HH Y):Cf Y:={fr:=(Alk c.fr la.Cq la.vars x c.nx).1++Aef c.fr la.Cq,sg:=(Alk c.fr la.Cq la.vars x c.nx).2.1,nx:=(Alk c.fr la.Cq la.vars x c.nx).2.2,H:=H,op:=none,hs:=c.hs,pt:=la.Cq++c.pt}
theorem W2{i:Nat}:∀{l m:List Nat},inN i l=true->inN i (l++m)=true
 |_::l,m,h=>by simp only[List.cons_append,inN,Bool.or_eq_true]at h ⊢;exact h.imp id W2
theorem Ads{i:Nat}:∀{l m:List Nat},inN i m=true->inN i (l++m)=true
 | [],_,h=>h
 |_::l,m,h=>by simp only[List.cons_append,inN,Bool.or_eq_true];exact .inr (Ads h)
theorem Ayk{g0 g1:Gst}{T AH AH1 A1:Own}{c:Cf Y}{f f1:Fr}(h:RG g0 T c f g AH A){la:LA}(hle:Ext g.I g.w g1.I g1.w)(hμ:∀i,i<g.n->g1.μ i=g.μ i)(hφ:∀t,inN t (la.Cq++c.pt)=true->f1 t=f t){x:VT Y la.vars}{H:HH Y}(hv:VTR g1.I g1.w f1 la.vars x A1)(hst:St g1.I g1.w (AH1++(A1++T)))(hH:HpR (HK' Y) g1.I g1.w H AH1):∃g2,g2.w=g1.w/\g2.φ=f/\Lx g g2/\RG g0 T (hdC c la x H) f1 g2 AH1 A1:=by
 let gb:Gst:={I:=g1.I,w:=g1.w,n:=g.n,μ:=g1.μ,φ:=f}
 obtain⟨g2,a1,a2,a3,a4,a5,a6⟩:=Alj (g:=gb) (fr:=c.fr) (kp:=la.Cq) (λt i hi=>by
  unfold rnm at hi;split at hi
  .rename_i j hk ha;injection hi with hi
   subst hi;obtain⟨k1,k2⟩:=h.fr t _ ha;exact⟨k1,by show g1.μ j=f1 t;rw[hμ j k1,<-k2,hφ t (W2 hk)]⟩
  .cases hi) hv
 have hn:gb.n=c.nx:=h.n;rw[hn]at a4 a5 a6;have hle2:Le {g with φ:=f} g2:=⟨by rw[a3,a2];exact hle,a1.n,λi hi=>by rw[a1.μ i hi];exact hμ i hi,a1.φ⟩
 refine⟨g2,a2,a1.φ,⟨hle2.ext,hle2.n,hle2.μ⟩,a4,by rw[a3,a2];exact h.le.trans hle,by rw[a3,a2];exact hst,by show HpR _ _ _ _ _;rw[a3,a2];exact hH,a6,λy hy=>⟨Nat.lt_of_lt_of_le (h.hs y hy).1 hle2.n,by rw[hle2.μ _ (h.hs y hy).1];exact(h.hs y hy).2⟩,λt ht=>by rw[a1.φ];exact hφ t ht,λi a hi=>?_⟩;rcases Al5 hi with hi|hi
 .exact a5 i a hi
 .obtain⟨h1,h2⟩:=Ag4 hi;rw[hφ i (W2 h2)];have:=(h.fr i a h1)
  exact AR.mono (g:={g with φ:=f}) hle2 (by cases a<;>exact this)
end
end
end Go.Y
