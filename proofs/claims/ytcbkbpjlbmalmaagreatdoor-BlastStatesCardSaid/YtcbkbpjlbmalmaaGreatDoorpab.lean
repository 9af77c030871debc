/-
  The Y layer, part d: operations that yield a value and leave memory alone, the same in every world in which what stays has stayed. (Merged by program out of 12 texts.)
-/
import Derived.Test.YtcbkbpjlbmalmaaGreatDoorpaa
import Derived.DataShut
import Derived.WideShapes4
import Derived.Maps.RangeRun
namespace Go.X
open Go Go.RowKit
section
def fvB(P:Program)(t:TypeId)(i off:Nat):Bool:=match P.underlying t with
 |some (.struct fs)=>match fs[i]? with
  |some fd=>fd.offset==off&&Pg P fd.type false 1
  |none=>false
 |_=>false
section
variable {P:Program} {N:Nat} {ops:Array Oper} {R:List PanicEntry->World->Prop} {m:Bool} {K:Fr->World->Prop} {os:List Oper} {f:Fr} {w:World}
variable {dst:Option Tmp} {ty:TypeId} {pos:String} {af:Array Edge} {I:BY} {T A:Bh} {x y z:Operand} {t e u:TypeId} {sz nb:Nat} {kd:IntKind} {a b:Int}
variable {fn:FuncId} {k:List Item}
theorem Amf{i off:Nat}{cs:Array Value}{v:Value}(hf:fvB P t i off=true)(hx:ev f x=.agg cs)(hv:cs[off]?=some v)(h:WL P N ops R m K os (put N f dst v) w):WL P N ops R m K (⟨dst,.field t x i,ty,pos,af,none⟩::os) f w:=by
 unfold fvB at hf;cases hu:P.underlying t with
 |none=>simp [hu]at hf
 |some d=>
  cases d<;>simp only[hu,Bool.false_eq_true]at hf;rename_i fs;cases hi:fs[i]? with
  |none=>simp [hi]at hf
  |some fd=>
   simp only[hi,Bool.and_eq_true,beq_iff_eq]at hf;exact Amg ⟨fs,fd,hu,hi,hf.1,hf.2⟩ hx hv h
theorem Q0{α:Type}[AT α]{z:Value}{zd:α}{n:Nat}(hz:rep I w z zd):D3 I w (((Array.range (n*AT.size α)).map λk=>z.cells[k%z.cells.size]!)[·]?) (List.replicate n zd):=by
 intro j hj;rw[List.length_replicate]at hj;refine⟨z,by rw[List.getElem_replicate];exact hz,λi hi=>?_⟩;have hs:=AT.cells hz;have hlt:j*AT.size α+i<n*AT.size α:=by have:(j+1)*AT.size α<=n*AT.size α:=Nat.mul_le_mul_right _ hj;rw[Nat.add_mul,Nat.one_mul]at this;omega
 have hm:(j*AT.size α+i)%z.cells.size=i:=by rw[hs,Nat.mul_comm,Nat.mul_add_mod];exact Nat.mod_eq_of_lt (by omega)
 simp [hlt,hm,hi]
theorem Aqj{α:Type}[AT α]{n:Nat}{zv:Value}{zd:α}(ht:WH P t e (AT.size α) nb=true)(hs:St I w T)(hx:ev f x=.int .i64 a)(hy:ev f y=.int .i64 b)(ha:a=(n:Int))(hb:b=(n:Int))(hzv:zrB P e zv)(hzr:∀(I:BY)(w:World),rep I w zv zd)(hnb:n*nb<=281474976710656)(hn:n<=9223372036854775807)(h:∀v A w',Ext I w I w'->St I w' (A++T)->Bw I w' A v (List.replicate n zd)->WL P N ops R m K os (put N f dst v) w'):WL P N ops R m K (⟨dst,.makeSlice t x y,ty,pos,af,none⟩::os) f w:=by
 obtain⟨i,z,hi,hsz,hbt,hz,hzs⟩:=(EO ht).info;have hu:=(EO ht).under;obtain rfl:z=zv:=by unfold zrB at hzv;simp only[hi,Option.bind_some,hz,Option.some.injEq]at hzv;exact hzv
 subst ha hb;have hw:IntKind.i64.wrap (n:Int)=n:=U2 (by omega) (by omega);have h1:¬((i.bytes:Int)*(n:Int)>281474976710656):=by rw[hbt];have h2:((nb*n:Nat):Int)<=((281474976710656:Nat):Int):=Int.ofNat_le.2 (by rw[Nat.mul_comm];exact hnb);rw[Int.natCast_mul]at h2;omega
 obtain⟨e1,s1⟩:=hs.alloc (.cells ((Array.range (n*AT.size α)).map λk=>z.cells[k%z.cells.size]!) e);by_cases h0:n*AT.size α=0
 .have hn0:n=0:=by rcases Nat.mul_eq_zero.1 h0 with h|h;exact h;have:=AT.pos (α:=α);omega
  subst hn0;refine Ay (v:=.slice (some ⟨w.heap.size,0,none⟩) 0 0) ?_ (h _ _ _ e1 s1 (Bw.Tw (by simp) (by simp) (by unfold maxLen;omega) (by simp) ((Q0 (hzr I w)).mono e1)));have hw0:IntKind.i64.wrap 0=0:=by decide
  simp [execOp,Instr.makeSlice,run_underlying hu,hx,hy,asInt,asIntOf,typeInfo,hi,hw0,sizeOf,newRow,show Array.range 0=#[] from rfl]
 .refine Ay (v:=.slice (some ⟨w.heap.size,0,none⟩) n n) ?_ (h _ _ _ e1 s1 (Bw.Tw (by simp) (by simp) (by unfold maxLen;omega) (by simp) ((Q0 (hzr I w)).mono e1)));simp [execOp,Instr.makeSlice,run_underlying hu,hx,hy,asInt,asIntOf,typeInfo,hi,hw,sizeOf,hsz,h0,newRow,zeroValue,hz];omega
end
end
section
instance:AT (Option Nat) where
 size:=1
 agg:=false
 rep _ _ v p:=v=.pointer (p.map λb=>⟨b,0,none⟩)
 pos:=by decide
 cells h:=by subst h;rfl
 form h:=by subst h;simp [Value.cells]
 one h:=by subst h;simp [Value.cells,Value.oneCell']
 mono _ h:=h
structure HK(ω:Type) where
 ob:ω->BY->World->Bh->Nat->Prop
 mono:∀{o:ω}{I:BY}{w:World}{I':BY}{w':World}{A:Bh}{b:Nat},Ext I w I' w'->ob o I w A b->ob o I' w' A b
 self:∀{o:ω}{I:BY}{w:World}{A:Bh}{b:Nat},ob o I w A b->∃x A',A=(b,x)::A'
 gl:BY->World->Prop
 glm:∀{I:BY}{w:World}{I':BY}{w':World},Ext I w I' w'->gl I w->gl I' w'
abbrev Hp(ω:Type):=Nat->Option ω
def Ac{ω:Type}(H:Hp ω)(b:Nat)(o:ω):Hp ω:=λc=>if c=b then some o else H c
theorem Ai{ω:Type}(H:Hp ω)(b:Nat)(o:ω):Ac H b o b=some o:=if_pos rfl
theorem Af{ω:Type}(H:Hp ω){b c:Nat}(o:ω)(h:c≠b):Ac H b o c=H c:=if_neg h
theorem KA{ω:Type}{H:Hp ω}{b:Nat}{o:ω}(h:H b=some o):Ac H b o=H:=by
 funext c;unfold Ac;split
 .rename_i e;rw[e,h]
 .rfl
theorem Yj{ω:Type}(H:Hp ω)(b:Nat)(o o':ω):Ac (Ac H b o) b o'=Ac H b o':=by funext c;unfold Ac;split<;>rfl
def lk{ω:Type}:List (Nat×ω)->Nat->Option ω
 | [],_=>none
 |p::l,b=>if b=p.1 then some p.2 else lk l b
section
variable {ω:Type} {K:HK ω} {I:BY} {w:World}
def HpL(K:HK ω)(I:BY)(w:World):List (Nat×ω)->Bh->Prop
 | [],A=>A=[]/\K.gl I w
 |p::l,A=>∃A1 A2,A=A1++A2/\K.ob p.2 I w A1 p.1/\HpL K I w l A2
structure Hk(K:HK ω)(I:BY)(w:World)(H:Hp ω)(A:Bh):Prop where
 ex:∃L,(∀b,lk L b=H b)/\HpL K I w L A
structure HpX(K:HK ω)(I:BY)(w:World)(H:Hp ω)(b:Nat)(A:Bh):Prop where
 ex:∃L,(∀c,c≠b->lk L c=H c)/\HpL K I w L A
theorem HpL.mono{I':BY}{w':World}(e:Ext I w I' w'):∀{L:List (Nat×ω)}{A:Bh},HpL K I w L A->HpL K I' w' L A
 | [],_,h=>⟨h.1,K.glm e h.2⟩
 |_::_,_,⟨A1,A2,h1,h2,h3⟩=>⟨A1,A2,h1,K.mono e h2,HpL.mono e h3⟩
theorem HpL.gl:∀{L:List (Nat×ω)}{A:Bh},HpL K I w L A->K.gl I w
 | [],_,h=>h.2
 |_::_,_,⟨_,_,_,_,h⟩=>HpL.gl h
theorem Hk.mono{I':BY}{w':World}{H:Hp ω}{A:Bh}(h:Hk K I w H A)(e:Ext I w I' w'):Hk K I' w' H A:=by obtain⟨L,h1,h2⟩:=h.ex;exact⟨L,h1,h2.mono e⟩
theorem HpX.mono{I':BY}{w':World}{H:Hp ω}{b:Nat}{A:Bh}(h:HpX K I w H b A)(e:Ext I w I' w'):HpX K I' w' H b A:=by obtain⟨L,h1,h2⟩:=h.ex;exact⟨L,h1,h2.mono e⟩
theorem HpL.split{b:Nat}{o:ω}:∀{L:List (Nat×ω)}{A:Bh},HpL K I w L A->lk L b=some o->∃A1 A2 L',A.Perm (A1++A2)/\K.ob o I w A1 b/\HpL K I w L' A2/\∀c,c≠b->lk L' c=lk L c
 | [],_,_,hb=>by simp [lk]at hb
 |p::l,A,⟨A1,A2,h1,h2,h3⟩,hb=>by
  unfold lk at hb;by_cases hc:b=p.1
  .rw[if_pos hc]at hb;obtain rfl:=Option.some.inj hb;subst hc;exact⟨A1,A2,l,h1▸List.Perm.refl _,h2,h3,λc hc=>by rw[lk,if_neg hc]⟩
  .rw[if_neg hc]at hb;obtain⟨B1,B2,L',hp,ho,hl,hn⟩:=HpL.split h3 hb;refine⟨B1,A1++B2,p::L',?_,ho,⟨A1,B2,rfl,h2,hl⟩,λc hcb=>by rw[lk,lk,hn c hcb]⟩;subst h1;refine(hp.append_left A1).trans ?_;rw[<-List.append_assoc,<-List.append_assoc];exact List.perm_append_comm.append_right _
variable {H:Hp ω} {A:Bh} {b:Nat} {o:ω}
theorem Hk.take{T:Bh}(h:Hk K I w H A)(hb:H b=some o)(s:St I w (A++T)):∃A1 A2,K.ob o I w A1 b/\HpX K I w H b A2/\St I w (A1++(A2++T)):=by obtain⟨L,h1,h2⟩:=h.ex;obtain⟨A1,A2,L',hp,ho,hl,hn⟩:=h2.split ((h1 b).trans hb);exact⟨A1,A2,ho,⟨L',λc hc=>(hn c hc).trans (h1 c),hl⟩,s.perm (by rw[<-List.append_assoc];exact hp.append_right T)⟩
variable {A1:Bh}
theorem HpX.lay{A2:Bh}(h:HpX K I w H b A2)(ho:K.ob o I w A1 b):Hk K I w (Ac H b o) (A1++A2):=by
 obtain⟨L,h1,h2⟩:=h.ex;refine⟨(b,o)::L,λc=>?_,A1,A2,rfl,ho,h2⟩;unfold lk Ac;by_cases hc:c=b
 .rw[if_pos hc,if_pos hc]
 .rw[if_neg hc,if_neg hc,h1 c hc]
theorem HpX.back{A2:Bh}(h:HpX K I w H b A2)(hb:H b=some o)(ho:K.ob o I w A1 b):Hk K I w H (A1++A2):=by have:=h.lay ho;rwa [KA hb]at this
theorem HpL.fresh{b:Nat}:∀{L:List (Nat×ω)}{A:Bh},HpL K I w L A->(∀p∈A,p.1≠b)->lk L b=none
 | [],_,_,_=>rfl
 |p::l,A,⟨A1,A2,h1,h2,h3⟩,hn=>by subst h1;obtain⟨x,A',rfl⟩:=K.self h2;rw[lk,if_neg,HpL.fresh h3 (λq hq=>hn q (List.mem_append_right _ hq))];exact λe=>hn (p.1,x) (by simp) e.symm
theorem Hk.fresh{T:Bh}(h:Hk K I w H A)(ho:K.ob o I w A1 b)(s:St I w (A1++(A++T))):H b=none:=by obtain⟨L,h1,h2⟩:=h.ex;rw[<-h1 b];refine h2.fresh λp hp e=>?_;obtain⟨x,A',rfl⟩:=K.self ho;have hn:=s.nodup;rw[List.map_append,List.nodup_append]at hn;exact hn.2.2 b (by simp) p.1 (List.mem_map_of_mem (List.mem_append_left _ hp)) e.symm
theorem Hk.new(h:Hk K I w H A)(ho:K.ob o I w A1 b):Hk K I w (Ac H b o) (A1++A):=by obtain⟨L,h1,h2⟩:=h.ex;exact HpX.lay ⟨L,λc _=>h1 c,h2⟩ ho
end
end
section
def A0m(P:Program)(r:Result Next)(v:Value)(w:World):Prop:=r=.ok (.value v) w∨∃g args,r=.ok (.enter g args) w/\Calls P g args w λe w'=>e=.returned v/\w'=w
def Akp(md:Region.Mode)(ops:Array Oper)(listed:Array Bool)(C:List Nat)(i:Nat):Bool:=
 C.all λc=>!(listed.getD c true)&&match ops[c]? with
  |some o=>o.after.any λe=>Region.binds md e&&(e.on==i ||C.contains e.on)
  |none=>false
def A0b(listed:Array Bool)(E C:List Nat):Bool:=E.all λe=>C.contains e ||listed.getD e true
theorem Gy{i:Nat}{listed:Array Bool}(h:listed.getD i true=false)(h1:listed.getD i false=true):False:=by
 rcases Nat.lt_or_ge i listed.size with h'|h'
 .simp [h']at h h1;rw[h]at h1;cases h1
 .simp [Array.getElem?_eq_none h']at h1
section
variable {P:Program} {ops:Array Oper} {R:List PanicEntry->World->Prop} {V:Act->World->Prop} {S:World->Prop} {E:List Nat} {w1:World}
def YG(P:Program)(ops:Array Oper)(S:World->Prop)(o:Oper)(v:Value)(a:Act):Prop:=(Region.wanted o (yielded ops a.tmps)=true/\∀w,S w->A0m P ((execOp a.eval o).run P w) v w)∨(Region.wanted o (yielded ops a.tmps)=false/\v=undef)
variable {i:Nat} {v:Value} {a:Act}
theorem YG.opA{o:Oper}(hi:ops[i]?=some o)(hy:YG P ops S o v a){K:Act->World->Prop}{w:World}(hS:S w)(h:K (a.put o.dst v) w):ZT P ops R i K a w:=by
 unfold ZT;simp only[hi];rcases hy with ⟨hw,hv⟩|⟨hw,rfl⟩
 .simp only[hw,if_true];rcases hv w hS with h1|⟨g,args,h1,h2⟩
  .rw[h1];exact h
  .rw[h1];refine⟨rfl,Calls.mono h2 λe w' he=>?_⟩;obtain⟨rfl,rfl⟩:=he;exact h
 .simp only[hw,Bool.false_eq_true,if_false];exact h
theorem YG.of_same{o:Oper}{a':Act}(hy:YG P ops S o v a)(he:execOp a'.eval o=execOp a.eval o)(hw:Region.wanted o (yielded ops a'.tmps)=Region.wanted o (yielded ops a.tmps)):YG P ops S o v a':=by unfold YG at *;rw[he,hw];exact hy
variable {oi:Oper}
theorem ZT.put{j:Nat}{oj:Oper}(hj:ops[j]?=some oj)(hap:oi.apart ops oj=true)(hsi:∀cs b,oi.op≠.select cs b)(hsj:∀cs b,oj.op≠.select cs b){K:Act->World->Prop}{w:World}(hy:YG P ops S oi v a)(h:ZT P ops R j K (a.put oi.dst v) w):ZT P ops R j (λa' w'=>YG P ops S oi v a'/\K (a'.put oi.dst v) w') a w:=by
 obtain⟨h1,h2,h3⟩:=Oper.apart_spec hap;have BA:∀u,YG P ops S oi v (a.put oj.dst u):=λu=>hy.of_same (execOp_put oi hsi a oj.dst u h3) (wanted_put oi a oj.dst u h3);unfold ZT at *;simp only[hj]at *;rw[wanted_put oj a oi.dst v h1]at h;split
 .rename_i hw;simp only[hw,if_true]at h;rw[execOp_put oj hsj a oi.dst v h1]at h;exact h.mono λu w' he=>⟨BA u,by rw[<-Act.put_comm a v u h2];exact he⟩
 .rename_i hw;simp only[hw]at h;exact⟨BA _,by rw[<-Act.put_comm a v undef h2];exact h⟩
theorem Sk{j:Nat}{listed:Array Bool}(hjun:listed.getD j true=false)(hfree:∀j oj,ops[j]?=some oj->j≠i->listed.getD j true=false->(∀e∈oj.after,Region.binds .any e=true->e.on≠i)->oi.apart ops oj=true):∀k ok,ops[k]?=some ok->k≠i->(listed.setIfInBounds j true).getD k true=false->(∀e∈ok.after,Region.binds .any e=true->e.on≠i)->oi.apart ops ok=true:=λk ok hk hki hun hno=>by
 refine hfree k ok hk hki ?_ hno;by_cases hjk:j=k
 .subst hjk;exact hjun
 .rw[getD_set_ne true hjk]at hun;exact hun
theorem Afh(hi:ops[i]?=some oi)(hsel:∀(j:Nat)(o:Oper)cs b,ops[j]?=some o->o.op≠.select cs b):∀(fuel:Nat)(listed:Array Bool)(a:Act)(w:World),(∀j oj,ops[j]?=some oj->j≠i->listed.getD j true=false->(∀e∈oj.after,Region.binds .any e=true->e.on≠i)->oi.apart ops oj=true)->i∈Region.ready .any ops listed->YG P ops S oi v a->S w->WB P ops R V S fuel (listed.setIfInBounds i true) (a.put oi.dst v) w->WB P ops R V S (fuel+1) listed a w:=by
 intro fuel;induction fuel with
 |zero=>
  intro listed a w _ hr hy hS H;refine⟨λh=>(by rw[h]at hr;cases hr),λj hj=>?_⟩;by_cases hji:j=i
  .subst hji;exact hy.opA hi hS ⟨hS,H⟩
  .have:=ready_mono hj hji;rw[H.1]at this;cases this
 |succ fuel ih=>
  intro listed a w hfree hr hy hS H;refine⟨λh=>(by rw[h]at hr;cases hr),λj hj=>?_⟩;by_cases hji:j=i
  .subst hji;exact hy.opA hi hS ⟨hS,H⟩
  .have h1:=H.2 j (ready_mono hj hji);have hiu:=(mem_ready.1 hr).1;obtain⟨hjun,oj,hoj,hall⟩:=mem_ready.1 hj;have hnot:∀e∈oj.after,Region.binds .any e=true->e.on≠i:=λe he hb heq=>by have h2:=hall e he hb;rw[heq]at h2;exact Gy hiu h2
   have h2:=ZT.put hoj (hfree j oj hoj hji hjun hnot) (λcs b=>hsel i oi cs b hi) (λcs b=>hsel j oj cs b hoj) hy h1;refine h2.mono λa' w' h3=>⟨h3.2.1,ih (listed.setIfInBounds j true) a' w' (Sk hjun hfree) (ready_mono hr (Ne.symm hji)) h3.1 h3.2.1 ?_⟩
   rw[Array.setIfInBounds_comm _ _ hji];exact h3.2.2
theorem Afj{C:List Nat}(hi:ops[i]?=some oi)(hsel:∀(j:Nat)(o:Oper)cs b,ops[j]?=some o->o.op≠.select cs b)(hiE:E.contains i=false):∀(fuel:Nat)(listed:Array Bool)(a:Act),(∀j oj,ops[j]?=some oj->j≠i->listed.getD j true=false->(∀e∈oj.after,Region.binds .any e=true->e.on≠i)->oi.apart ops oj=true)->i∈Region.ready .any ops listed->(∀c∈C,listed.getD c true=false/\∃o,ops[c]?=some o/\∃e∈o.after,Region.binds .any e=true/\(e.on=i∨e.on∈C))->(∀e∈E,e∈C∨listed.getD e true=true)->YG P ops (·=w1) oi v a->XB P ops R V S E w1 fuel (listed.setIfInBounds i true) (a.put oi.dst v) w1->XB P ops R V S E w1 (fuel+1) listed a w1:=by
 intro fuel;induction fuel with
 |zero=>
  intro listed a _ hr _ _ hy H;refine⟨λh=>(by rw[h]at hr;cases hr),λj hj=>?_⟩;by_cases hji:j=i
  .subst hji;exact hy.opA hi rfl (by rw[hiE];exact⟨rfl,H⟩)
  .have:=ready_mono hj hji;rw[H.1]at this;cases this
 |succ fuel ih=>
  intro listed a hfree hr hC hE hy H;refine⟨λh=>(by rw[h]at hr;cases hr),λj hj=>?_⟩;by_cases hji:j=i
  .subst hji;exact hy.opA hi rfl (by rw[hiE];exact⟨rfl,H⟩)
  .have hiu:=(mem_ready.1 hr).1;obtain⟨hjun,oj,hoj,hall⟩:=mem_ready.1 hj;have hjC:j∉C:=λhc=>by
    obtain⟨_,o,ho,e,he,hb,h1⟩:=hC j hc;rw[hoj]at ho;obtain rfl:=Option.some.inj ho;have h2:=hall e he hb;rcases h1 with h1|h1
    .rw[h1]at h2;exact Gy hiu h2
    .exact Gy (hC _ h1).1 h2
   have hjE:E.contains j=false:=by
    rw[Bool.eq_false_iff];intro h;rcases hE j (by simpa using h) with h1|h1
    .exact hjC h1
    .rw[hjun]at h1;cases h1
   have h1:=H.2 j (ready_mono hj hji);have hnot:∀e∈oj.after,Region.binds .any e=true->e.on≠i:=λe he hb heq=>by have h2:=hall e he hb;rw[heq]at h2;exact Gy hiu h2
   have h2:=ZT.put hoj (hfree j oj hoj hji hjun hnot) (λcs b=>hsel i oi cs b hi) (λcs b=>hsel j oj cs b hoj) hy h1;refine h2.mono λa' w' h3=>?_;rw[hjE]at h3 ⊢;obtain⟨h4,rfl,h5⟩:=h3;refine⟨rfl,ih (listed.setIfInBounds j true) a' (Sk hjun hfree) (ready_mono hr (Ne.symm hji)) (λc hc=>?_) (λe he=>?_) h4 ?_⟩
   .have:=hC c hc;exact⟨by rw[getD_set_ne true (λh:j=c=>hjC (h.symm▸hc))];exact this.1,this.2⟩
   .refine(hE e he).imp id λh=>?_;by_cases hje:j=e
    .subst hje;rw[hjun]at h;cases h
    .rw[getD_set_ne true hje];exact h
   .rw[Array.setIfInBounds_comm _ _ hji];exact h5
theorem Uf(hi:ops[i]?=some oi)(hsel:∀(j:Nat)(o:Oper)cs b,ops[j]?=some o->o.op≠.select cs b)(hiE:E.contains i=false)(hS:S w1):∀(fuel:Nat)(listed:Array Bool)(a:Act),(∀j oj,ops[j]?=some oj->j≠i->listed.getD j true=false->(∀e∈oj.after,Region.binds .any e=true->e.on≠i)->oi.apart ops oj=true)->i∈Region.ready .any ops listed->YG P ops S oi v a->XB P ops R V S E w1 fuel (listed.setIfInBounds i true) (a.put oi.dst v) w1->XB P ops R V S E w1 (fuel+1) listed a w1:=by
 intro fuel;induction fuel with
 |zero=>
  intro listed a _ hr hy H;refine⟨λh=>(by rw[h]at hr;cases hr),λj hj=>?_⟩;by_cases hji:j=i
  .subst hji;exact hy.opA hi hS (by rw[hiE];exact⟨rfl,H⟩)
  .have:=ready_mono hj hji;rw[H.1]at this;cases this
 |succ fuel ih=>
  intro listed a hfree hr hy H;refine⟨λh=>(by rw[h]at hr;cases hr),λj hj=>?_⟩;by_cases hji:j=i
  .subst hji;exact hy.opA hi hS (by rw[hiE];exact⟨rfl,H⟩)
  .have hiu:=(mem_ready.1 hr).1;obtain⟨hjun,oj,hoj,hall⟩:=mem_ready.1 hj;have h1:=H.2 j (ready_mono hj hji);have hnot:∀e∈oj.after,Region.binds .any e=true->e.on≠i:=λe he hb heq=>by have h2:=hall e he hb;rw[heq]at h2;exact Gy hiu h2
   have h2:=ZT.put hoj (hfree j oj hoj hji hjun hnot) (λcs b=>hsel i oi cs b hi) (λcs b=>hsel j oj cs b hoj) hy h1;refine h2.mono λa' w' h3=>?_;by_cases hjE:E.contains j=true
   .rw[if_pos hjE]at h3 ⊢;obtain⟨h4,h5,h6⟩:=h3;refine⟨h5,Afh hi hsel fuel _ a' w' (Sk hjun hfree) (ready_mono hr (Ne.symm hji)) h4 h5 ?_⟩;rw[Array.setIfInBounds_comm _ _ hji];exact h6
   .rw[if_neg hjE]at h3 ⊢;obtain⟨h4,rfl,h6⟩:=h3;refine⟨rfl,ih (listed.setIfInBounds j true) a' (Sk hjun hfree) (ready_mono hr (Ne.symm hji)) h4 ?_⟩;rw[Array.setIfInBounds_comm _ _ hji];exact h6
end
section
variable {P:Program} {φ:FK} {N:Nat} {k:List Item} {R:Qy->World->Prop} {f:Fr} {w:World} {ops:Array Oper} {S:World->Prop} {n:Nat} {l:Array Bool} {E:List Nat}
def VG(P:Program)(φ:FK)(N:Nat)(k:List Item)(R:Qy->World->Prop):Act->World->Prop:=λa w=>a.defers=φ.ds/\∃f,Is N a.tmps f/\WT P φ N k R f w
def WE(P:Program)(φ:FK)(N:Nat)(ops:Array Oper)(k:List Item)(R:Qy->World->Prop)(S:World->Prop)(E:List Nat)(n:Nat)(l:Array Bool)(f:Fr)(w:World):Prop:=∀a,Is N a f->XB P ops (φ.at R) (VG P φ N k R) S E w n l ⟨a,φ.ds⟩ w
theorem ZD(E:List Nat)(hS:S w)(h:WE P φ N ops k R S E n l f w):WG P φ N ops k R S n l f w:=λa ha=>Yk hS _ _ _ _ (h a ha)
theorem Anv(hr:Region.ready .any ops l=[])(h:WT P φ N k R f w):WE P φ N ops k R S E n l f w:=λa ha=>by
 cases n with
 |zero=>exact⟨hr,rfl,f,ha,h⟩
 |succ n=>exact⟨λ_=>⟨rfl,f,ha,h⟩,by rw[hr];simp⟩
variable {d:Nat} {o:Oper} {f2:Fr}
theorem Anu{w:World}(hd:o.dst=some d)(hN:Nat.blt d N=true)(h1:WL P N ops (λ_ _=>False) true (λf' w'=>f'=f2/\w'=w) [o] f w):∃v,put N f o.dst v=f2/\((Region.wanted o (yl ops f)=true/\(execOp (ev f) o).run P w=.ok (.value v) w)∨(Region.wanted o (yl ops f)=false/\v=undef)):=by
 have hdN:d<N:=by simpa [Nat.blt_eq] using hN
 by_cases hw:Region.wanted o (yl ops f)=true
 .simp only[WL,hw,if_true]at h1;obtain⟨v,w2,hr,e1,e2⟩:=ZR _ h1;exact⟨v,e1,.inl ⟨hw,by rw[hr,e2]⟩⟩
 .simp only[WL,hw,if_false,Bool.false_eq_true]at h1;exact⟨undef,h1.1,.inr ⟨by simpa using hw,rfl⟩⟩
variable {i:Nat}
theorem A0c{l':Array Bool}(C:List Nat)(hi:ops[i]?=some o)(hd:o.dst=some d)(hN:Nat.blt d N=true)(hb:(Region.noSelect ops&&Region.free .any ops l i&&(Region.ready .any ops l).contains i&&!(E.contains i)&&Akp .any ops l C i&&A0b l E C)=true)(hl:l.setIfInBounds i true=l')(h1:WL P N ops (λ_ _=>False) true (λf' w'=>f'=f2/\w'=w) [o] f w)(h:WE P φ N ops k R S E n l' f2 w):WE P φ N ops k R S E (n+1) l f w:=by
 intro a ha;simp only[Bool.and_eq_true,Bool.not_eq_true']at hb;obtain⟨v,rfl,hy⟩:=Anu hd hN h1;obtain⟨a',e1,h2⟩:=ha.put (ds:=φ.ds) o.dst v;refine Afj (C:=C) (v:=v) hi (Region.noSelect_spec hb.1.1.1.1.1) hb.1.1.2 _ _ _ (Region.free_spec hi hb.1.1.1.1.2) (by simpa using hb.1.1.1.2) (λc hc=>?_) (λe he=>?_) ?_ ?_
 .have:=List.all_eq_true.1 hb.1.2 c hc;simp only[Bool.and_eq_true,Bool.not_eq_true']at this;refine⟨this.1,?_⟩;cases ho:ops[c]? with
  |none=>rw[ho]at this;simp at this
  |some o=>
   rw[ho]at this;have h3:=this.2;simp only[<-Array.any_toList,List.any_eq_true]at h3;obtain⟨e,he,hx⟩:=h3;simp only[Bool.and_eq_true,Bool.or_eq_true,beq_iff_eq,List.contains_iff_mem]at hx;exact⟨o,rfl,e,by simpa using he,hx.1,hx.2⟩
 .have:=List.all_eq_true.1 hb.2 e he;simpa [Bool.or_eq_true,List.contains_iff_mem] using this
 .unfold YG;rw[UI ha,G7 ha];exact hy.imp (λ⟨h1,h2⟩=>⟨h1,λw hw=>by rw[hw];exact .inl h2⟩) id
 .rw[e1];subst hl;exact h a' h2
theorem Mj{l':Array Bool}(hi:ops[i]?=some o)(hd:o.dst=some d)(hN:Nat.blt d N=true)(hb:(Region.noSelect ops&&Region.free .any ops l i&&(Region.ready .any ops l).contains i&&!(E.contains i))=true)(hl:l.setIfInBounds i true=l')(hS:S w)(h1:∀w,S w->WL P N ops (λ_ _=>False) true (λf' w'=>f'=f2/\w'=w) [o] f w)(h:WE P φ N ops k R S E n l' f2 w):WE P φ N ops k R S E (n+1) l f w:=by
 intro a ha;simp only[Bool.and_eq_true,Bool.not_eq_true']at hb;have hdN:d<N:=by simpa [Nat.blt_eq] using hN
 obtain⟨v,rfl,hy⟩:=Anu hd hN (h1 w hS);obtain⟨a',e1,h2⟩:=ha.put (ds:=φ.ds) o.dst v;have self:∀u,put N f o.dst u d=u:=λu=>by rw[hd];simp [put,DO,hdN]
 refine Uf (v:=v) hi (Region.noSelect_spec hb.1.1.1) hb.2 hS _ _ _ (Region.free_spec hi hb.1.1.2) (by simpa using hb.1.2) ?_ ?_
 .unfold YG;rw[UI ha,G7 ha];refine hy.imp (λ⟨h3,_⟩=>⟨h3,λw' hw'=>.inl ?_⟩) id;obtain⟨u,hu,hyu⟩:=Anu hd hN (h1 w' hw');have:u=v:=by rw[<-self u,hu,self]
  subst this;rcases hyu with ⟨_,h4⟩|⟨h4,_⟩
  .exact h4
  .rw[h3]at h4;cases h4
 .rw[e1];subst hl;exact h a' h2
theorem Aha{v:Value}(hi:ops[i]?=some o)(_hd:o.dst=some d)(hb:(Region.noSelect ops&&Region.free .any ops l i&&(Region.ready .any ops l).contains i&&!(E.contains i))=true)(hS:S w)(hw:Region.wanted o (yl ops f)=true)(h1:∀w,S w->A0m P ((execOp (ev f) o).run P w) v w)(h:WE P φ N ops k R S E n (l.setIfInBounds i true) (put N f o.dst v) w):WE P φ N ops k R S E (n+1) l f w:=by
 intro a ha;simp only[Bool.and_eq_true,Bool.not_eq_true']at hb;obtain⟨a',e1,h2⟩:=ha.put (ds:=φ.ds) o.dst v;refine Uf (v:=v) hi (Region.noSelect_spec hb.1.1.1) hb.2 hS _ _ _ (Region.free_spec hi hb.1.1.2) (by simpa using hb.1.2) ?_ ?_
 .unfold YG;rw[UI ha,G7 ha];exact .inl ⟨hw,h1⟩
 .rw[e1];exact h a' h2
theorem A0e{rs:List Nat}(hr:Region.ready .any ops l=rs)(hne:rs≠[])(h:∀i∈rs,∀a,Is N a f->ZT P ops (φ.at R) i (λa' w'=>if E.contains i then S w'/\WB P ops (φ.at R) (VG P φ N k R) S n (l.setIfInBounds i true) a' w' else w'=w/\XB P ops (φ.at R) (VG P φ N k R) S E w n (l.setIfInBounds i true) a' w') ⟨a,φ.ds⟩ w):WE P φ N ops k R S E (n+1) l f w:=λa ha=>
 ⟨λh0=>absurd (hr▸h0) hne,λi hi=>h i (hr▸hi) a ha⟩
end
end
section
def X6(P:Program)(g:FuncId)(vs:List Value)(I:BY)(w:World)(Q X:Value->BY->World->Prop):Prop:=Calls P g ⟨vs⟩ w λe w'=>(∃v I',e=.returned v/\Ext I w I' w'/\Q v I' w')∨(∃v I',e=.panicked [{v,recovered:=false}]/\Ext I w I' w'/\X v I' w')
theorem X6.mono{P:Program}{g:FuncId}{vs:List Value}{I:BY}{w:World}{Q Q' X X':Value->BY->World->Prop}(h:X6 P g vs I w Q X)(hq:∀v I' w',Ext I w I' w'->Q v I' w'->Q' v I' w')(hx:∀v I' w',Ext I w I' w'->X v I' w'->X' v I' w'):X6 P g vs I w Q' X':=Calls.mono h λe w' hh=>hh.imp (λ⟨v,I',h1,h2,h3⟩=>⟨v,I',h1,h2,hq _ _ _ h2 h3⟩) (λ⟨v,I',h1,h2,h3⟩=>⟨v,I',h1,h2,hx _ _ _ h2 h3⟩)
section
variable {P:Program} {N:Nat} {ops:Array Oper} {R:List PanicEntry->World->Prop} {m:Bool} {K:Fr->World->Prop} {os:List Oper} {f:Fr} {w:World}
variable {dst:Option Tmp} {ty:TypeId} {pos:String} {af:Array Edge} {I:BY} {T A:Bh} {x y z:Operand} {t e u:TypeId} {kd:IntKind}
variable {k:List Item}
variable {vs:List Value} {Q X:Value->BY->World->Prop}
theorem Al8{g:FuncId}{as:Array Operand}{at_:Array TypeId}(hg:CU P g=true)(hc:X6 P g vs I w Q X)(ha:as.toList.map (ev f)=vs)(hx:∀v I' w',Ext I w I' w'->X v I' w'->R [{v,recovered:=false}] w')(h:∀v I' w',Ext I w I' w'->Q v I' w'->WL P N ops R false K os (put N f dst v) w'):WL P N ops R false K (⟨dst,.call ⟨.value (.func g),as,at_⟩,ty,pos,af,none⟩::os) f w:=
 Vx hg ha (Calls.mono hc λe w' hh=>by
  rcases hh with ⟨v,I',h1,h2,h3⟩|⟨v,I',h1,h2,h3⟩
  .subst h1;exact h v I' w' h2 h3
  .subst h1;exact hx v I' w' h2 h3)
theorem Agg{g:FuncId}{fv:Operand}{first captured:Array Value}{as:Array Operand}{at_:Array TypeId}(hg:CU P g=true)(hc:X6 P g vs I w Q X)(hv:ev f fv=.func (.func g) first captured)(ha:first.toList++as.toList.map (ev f)++captured.toList=vs)(hx:∀v I' w',Ext I w I' w'->X v I' w'->R [{v,recovered:=false}] w')(h:∀v I' w',Ext I w I' w'->Q v I' w'->WL P N ops R false K os (put N f dst v) w'):WL P N ops R false K (⟨dst,.call ⟨.value fv,as,at_⟩,ty,pos,af,none⟩::os) f w:=
 Agk hv hg ha (Calls.mono hc λe w' hh=>by
  rcases hh with ⟨v,I',h1,h2,h3⟩|⟨v,I',h1,h2,h3⟩
  .subst h1;exact h v I' w' h2 h3
  .subst h1;exact hx v I' w' h2 h3)
theorem QA{q:FuncId}{F:Func}{c:Code}(hf:P.funcs[q]?=some F)(hb:F.body=some c)(hn:F.ntmps=N)(hv:Nat.ble vs.length N=true)(h:WT P ⟨q,none,[]⟩ N [.code c] (Ajy P F N λe w'=>(∃v I',e=.returned v/\Ext I w I' w'/\Q v I' w')∨(∃v I',e=.panicked [{v,recovered:=false}]/\Ext I w I' w'/\X v I' w')) (WI vs) w):X6 P q vs I w Q X:=Il hf hb hn (Nat.le_of_ble_eq_true hv) h
theorem Ox(n:Nat)(p:Option Addr)(ht:P.underlying t=some (.pointer e)):(Op.equalIn (n+1) t (.pointer p) (.pointer none)).run P w=.ok p.isNone w:=by cases p<;>simp [Op.equalIn,run_underlying ht]
variable {p:Option Addr}
theorem Ad5(ht:P.underlying t=some (.pointer e)):(binOp .eql t (.pointer p) (.pointer none)).run P w=.ok (.bool p.isNone) w:=by simp only[binOp,Op.equal,Sem.run_bind,Op.maxDepth,Ox 9999 p ht,Result.andThen_ok,Sem.run_pure]
theorem Ad4(ht:P.underlying t=some (.pointer e)):(binOp .neq t (.pointer p) (.pointer none)).run P w=.ok (.bool (!p.isNone)) w:=by simp only[binOp,Op.equal,Sem.run_bind,Op.maxDepth,Ox 9999 p ht,Result.andThen_ok,Sem.run_pure]
theorem Ym{op:BinOp}{q:Option Addr}:(eqGuard op t x y (.pointer p) (.pointer q)).run P w=.ok () w:=by simp only[eqGuard];cases op<;>simp
theorem Aa8{p:Option Nat}:(p.map λb=>(⟨b,0,none⟩:Addr)).isNone=decide (p=none):=by cases p<;>simp
variable {v:Value}
theorem Azd{p:Option Nat}(ht:∃e,P.underlying t=some (.pointer e))(hr:rep I w v p)(hx:ev f x=v)(hy:ev f y=.pointer none)(h:WL P N ops R m K os (put N f dst (.bool (decide (p=none)))) w):WL P N ops R m K (⟨dst,.binOp .eql t x y u,ty,pos,af,none⟩::os) f w:=by obtain⟨e,ht⟩:=ht;have hr:v=.pointer (p.map λb=>⟨b,0,none⟩):=hr;subst hr;exact Ay (by simp only[execOp,hx,hy,Sem.run_bind,Ym,Result.andThen_ok,Ad5 ht,Sem.run_pure,Aa8]) h
theorem Ay6{p:Option Nat}(ht:∃e,P.underlying t=some (.pointer e))(hr:rep I w v p)(hx:ev f x=v)(hy:ev f y=.pointer none)(h:WL P N ops R m K os (put N f dst (.bool (decide (¬(p=none))))) w):WL P N ops R m K (⟨dst,.binOp .neq t x y u,ty,pos,af,none⟩::os) f w:=by obtain⟨e,ht⟩:=ht;have hr:v=.pointer (p.map λb=>⟨b,0,none⟩):=hr;subst hr;exact Ay (by simp only[execOp,hx,hy,Sem.run_bind,Ym,Result.andThen_ok,Ad4 ht,Sem.run_pure,Aa8,decide_not]) h
variable {a b:ByteArray}
theorem Yl{op:BinOp}:(eqGuard op t x y (.string a) (.string b)).run P w=.ok () w:=by simp only[eqGuard];cases op<;>simp
theorem Aol(a b:ByteArray):(a.toList==b.toList)=decide (a=b):=by
 by_cases h:a=b
 .subst h;simp
 .rw[decide_eq_false h];refine beq_eq_false_iff_ne.2 λe=>h ?_;rw[ByteArray.toList_eq,ByteArray.toList_eq]at e;cases a with|mk a=>cases b with|mk b=>simpa using e
theorem Azc(hx:ev f x=.string a)(hy:ev f y=.string b)(h:WL P N ops R m K os (put N f dst (.bool (decide (a=b)))) w):WL P N ops R m K (⟨dst,.binOp .eql t x y u,ty,pos,af,none⟩::os) f w:=
 Ay (by simp only[execOp,hx,hy,Sem.run_bind,Yl,Result.andThen_ok,binOp,Op.stringOp,Sem.run_pure,Aol]) h
theorem Ay4(hx:ev f x=.string a)(hy:ev f y=.string b)(h:WL P N ops R m K os (put N f dst (.bool (decide (¬(a=b))))) w):WL P N ops R m K (⟨dst,.binOp .neq t x y u,ty,pos,af,none⟩::os) f w:=
 Ay (by simp only[execOp,hx,hy,Sem.run_bind,Yl,Result.andThen_ok,binOp,Op.stringOp,Sem.run_pure,Aol,decide_not]) h
theorem Aqi{tv:TypeId}(hx:ev f x=.iface tv v)(h:R [{v:=.iface tv v,recovered:=false}] w):WL P N ops R false K (⟨dst,.panic x,ty,pos,af,none⟩::os) f w:=by simp only[WL,Region.wanted];rw[if_pos (by simp)];simp [execOp,hx,Instr.panic,UP];exact h
end
end
section
def Ag(k:IntKind)(n:Int):Prop:=k.min<=n/\n<=k.max
theorem IA(k:IntKind)(n:Int):Ag k (k.wrap n):=by unfold Ag;have:=(Lit.wf_int_iff k _).1 (WideShapes.wf_wrap k n);exact this
theorem Awi(b:UInt8):Ag .u8 (b.toNat:Int):=by
 have h1:IntKind.u8.min=0:=by decide
 have h2:IntKind.u8.max=255:=by decide
 have:=b.toNat_lt;unfold Ag;omega
theorem E3{k:IntKind}{n:Int}(h:Ag k n):k.wrap n=n:=by unfold Ag at h;cases k<;>simp [IntKind.min,IntKind.max,IntKind.bits,IntKind.signed]at h<;>simp [IntKind.wrap,IntKind.bits,IntKind.signed]<;>omega
theorem Z9{a d:Int}(hd:0<d):(0<=a->0<=a.fdiv d/\a.fdiv d<=a)/\(a<0->a<=a.fdiv d/\a.fdiv d<0):=by rw[Int.fdiv_eq_ediv_of_nonneg a (by omega)];refine⟨λh=>⟨Int.ediv_nonneg h (by omega),Int.ediv_le_self d h⟩,λh=>⟨?_,Int.ediv_neg_of_neg_of_pos h hd⟩⟩;rw[Int.le_ediv_iff_mul_le hd];have:=Int.mul_le_mul_of_nonpos_left (a:=a) (show a<=0 by omega) (show (1:Int)<=d by omega);omega
theorem Ai9(k:IntKind):k.min<=0/\0<=k.max:=by cases k<;>decide
theorem Aq7{k:IntKind}{a b:Int}(h:Ag k a)(_:0<=b):Ag k (a.fdiv (2^(min b.toNat k.bits))):=by
 have h1:=Z9 (a:=a) (d:=2^(min b.toNat k.bits)) (Int.pow_pos (by decide));have h2:=Ai9 k;unfold Ag at *;rcases Int.lt_or_le a 0 with h3|h3
 .have:=h1.2 h3;omega
 .have:=h1.1 h3;omega
section
variable {P:Program} {N:Nat} {ops:Array Oper} {R:List PanicEntry->World->Prop} {m:Bool} {K:Fr->World->Prop} {os:List Oper} {f:Fr} {w:World}
variable {dst:Option Tmp} {ty:TypeId} {pos:String} {af:Array Edge} {I:BY} {T A:Bh} {x y z:Operand} {t e u:TypeId} {kd kd2:IntKind} {a b:Int}
def C5(op:BinOp)(k:IntKind)(a b:Int):Int:=match op with
 | .and=>k.wrap (BitVec.ofInt k.bits a&&&BitVec.ofInt k.bits b).toNat
 | .or=>k.wrap (BitVec.ofInt k.bits a|||BitVec.ofInt k.bits b).toNat
 | .xor=>k.wrap (BitVec.ofInt k.bits a ^^^ BitVec.ofInt k.bits b).toNat
 |_=>k.wrap (BitVec.ofInt k.bits a&&&~~~ BitVec.ofInt k.bits b).toNat
theorem Pt{op:BinOp}{k:IntKind}{a b:Int}:Ag k (C5 op k a b):=by unfold C5;split<;>exact IA _ _
theorem As5(hx:ev f x=.int kd a)(hy:ev f y=.int kd b)(h:WL P N ops R m K os (put N f dst (.int kd (C5 .and kd a b))) w):WL P N ops R m K (⟨dst,.binOp .and t x y u,ty,pos,af,none⟩::os) f w:=
 RL hx hy (by simp [binOp,Op.intBits,C5]) h
theorem Ay3(hx:ev f x=.int kd a)(hy:ev f y=.int kd b)(h:WL P N ops R m K os (put N f dst (.int kd (C5 .or kd a b))) w):WL P N ops R m K (⟨dst,.binOp .or t x y u,ty,pos,af,none⟩::os) f w:=
 RL hx hy (by simp [binOp,Op.intBits,C5]) h
theorem As0(hx:ev f x=.int kd a)(hy:ev f y=.int kd b)(h:WL P N ops R m K os (put N f dst (.int kd (C5 .xor kd a b))) w):WL P N ops R m K (⟨dst,.binOp .xor t x y u,ty,pos,af,none⟩::os) f w:=
 RL hx hy (by simp [binOp,Op.intBits,C5]) h
theorem VO{op:BinOp}:(eqGuard op t x y (.int kd a) (.int kd2 b)).run P w=.ok () w:=by simp only[eqGuard];cases op<;>simp
theorem Ay2(hx:ev f x=.int kd a)(hy:ev f y=.int kd2 b)(hb:0<=b)(h:WL P N ops R m K os (put N f dst (.int kd (kd.wrap (a*2^(min b.toNat kd.bits))))) w):WL P N ops R m K (⟨dst,.binOp .shl t x y u,ty,pos,af,none⟩::os) f w:=
 Ay (by
  have:¬b<0:=by omega
  simp only[execOp,hx,hy,Sem.run_bind,VO,Result.andThen_ok,binOp,Op.shift,if_neg this,Sem.run_pure]) h
theorem Ay1(hx:ev f x=.int kd a)(hy:ev f y=.int kd2 b)(hb:0<=b)(h:WL P N ops R m K os (put N f dst (.int kd (a.fdiv (2^(min b.toNat kd.bits))))) w):WL P N ops R m K (⟨dst,.binOp .shr t x y u,ty,pos,af,none⟩::os) f w:=
 Ay (by
  have:¬b<0:=by omega
  simp only[execOp,hx,hy,Sem.run_bind,VO,Result.andThen_ok,binOp,Op.shift,if_neg this,Sem.run_pure]) h
theorem Vw{kt ku:IntKind}(ht:P.underlying t=some (.int kt))(hu:P.underlying e=some (.int ku))(hx:ev f x=.int kd a)(h:WL P N ops R m K os (put N f dst (.int ku (ku.wrap a))) w):WL P N ops R m K (⟨dst,.convert t e x,ty,pos,af,none⟩::os) f w:=
 Ay (by simp only[execOp,hx,convert,Sem.run_bind,run_underlying ht,run_underlying hu,Result.andThen_ok,Conv.intToInt,Sem.run_pure]) h
theorem Ama(hx:ev f x=.int kd a)(hy:ev f y=.int kd b)(h0:b≠0)(hb:Ag kd (a.tdiv b))(h:WL P N ops R m K os (put N f dst (.int kd (a.tdiv b))) w):WL P N ops R m K (⟨dst,.binOp .quo t x y u,ty,pos,af,none⟩::os) f w:=
 RL hx hy (by simp [binOp,Op.intDiv,h0,E3 hb]) h
theorem Al9(hx:ev f x=.int kd a)(hy:ev f y=.int kd b)(h0:b≠0)(hb:Ag kd (a.tmod b))(h:WL P N ops R m K os (put N f dst (.int kd (a.tmod b))) w):WL P N ops R m K (⟨dst,.binOp .rem t x y u,ty,pos,af,none⟩::os) f w:=
 RL hx hy (by simp [binOp,Op.intDiv,h0,E3 hb]) h
theorem Amd{s:ByteArray}{j:Nat}(ht:P.underlying t=some .string)(hj:j<s.size)(hx:ev f x=.string s)(hy:ev f y=.int kd a)(ha:a=(j:Int))(h:WL P N ops R m K os (put N f dst (.int .u8 (s[j].toNat:Int))) w):WL P N ops R m K (⟨dst,.index t x y,ty,pos,af,none⟩::os) f w:=
 Ay (by subst ha;simp [execOp,hx,hy,Instr.index,asIntOf,run_underlying ht,hj]) h
end
end
section
section
variable {P:Program} {φ:FK} {N:Nat} {k:List Item} {R:Qy->World->Prop} {f:Fr} {w:World}
def Uo(fn:FuncId)(a:Array Value)(ps:Array Tmp)(as bd:Code)(b:Nat):Loop:={state:=.ready,pending:=none,fn:=fn,tmps:=a,params:=ps,assign:=as,body:=bd,defers:=b}
def FK.mark(φ:FK)(b:Nat):FK:={φ with ds:=⟨.collected b,#[]⟩::φ.ds}
theorem Y7(hro:φ.ro=none){g:Operand}{ps:Array Tmp}{as bd:Code}{q:FuncId}{first cap:Array Value}(hg:ev f g=.func (.func q) first cap)(h:∀a,Is N a f->CU P q=true/\Calls P q ⟨first.toList++[.func (.yield (w.heap.size+1)) #[] #[]]++cap.toList⟩ ((w.alloc (.deferred (some []))).alloc (.loop (Uo φ.fn a ps as bd w.heap.size))) λe w'=>match e with
   | .returned _=>∃r,w'.heap[w.heap.size+1]?=some (.loop r)/\r.state≠.busy/\WT P (φ.mark w.heap.size) N ((r.pending.map Item.code).toList++k) R f (w'.putObj (w.heap.size+1) (.loop {r with state:=.exhausted}))
   | .panicked ch=>R (.pan ch f (φ.mark w.heap.size).ds) w'
   | .outgrown=>False):WT P φ N (.code (.rangeFunc g ps as bd)::k) R f w:=by
 intro b cs a ha hb hk hr
 obtain⟨hq,h⟩:=h a ha
 have he:(Instr.enterLoop b.fn a ps as bd b.roundOf).run P w=.ok (w.heap.size+1,[⟨.collected w.heap.size,#[]⟩]) ((w.alloc (.deferred (some []))).alloc (.loop (Uo φ.fn a ps as bd w.heap.size))):=by rw[hr,hro,hb,run_enterLoop_outer];rfl
 have hev:(Act.eval ⟨a,φ.ds⟩) g=.func (.func q) first cap:=by rw[Su ha];exact hg
 have G0:∀w1:World,∃d,(resolve (Act.eval ⟨a,φ.ds⟩) (rangeCall g (w.heap.size+1)) 0).run P w1=.ok d w1/\(invoke d.target d.args).run P w1=.ok (.enter q ⟨first.toList++[.func (.yield (w.heap.size+1)) #[] #[]]++cap.toList⟩) w1:=λw1=>by have hc:(Act.eval ⟨a,φ.ds⟩) (.const (.func (.yield (w.heap.size+1)) #[] #[]))=.func (.yield (w.heap.size+1)) #[] #[]:=rfl;refine⟨_,by simp only[resolve,rangeCall,hev,Sem.run_bind,Sem.run_pure,Result.andThen_ok,Deferred.ofValue];rfl,?_⟩;simp [invoke,Mv hq,hc]
 obtain⟨d,hd,hi⟩:=G0 ((w.alloc (.deferred (some []))).alloc (.loop (Uo φ.fn a ps as bd w.heap.size)))
 have henter:=stepR_rangeFunc (P:=P) (b:=b) (a:=⟨a,φ.ds⟩) (k:=k) (cs:=cs) (w:=w) he hd hi
 obtain⟨e,w₃,fr,hR,hsteps,hfn,hleave⟩:=h (b.atR ⟨a,(φ.mark w.heap.size).ds⟩ (.inRangeFunc (w.heap.size+1)::k)::cs)
 cases e with
 |outgrown=>exact hR.elim
 |returned v=>
  obtain⟨r,hr1,hr2,hw⟩:=hR;have hend:=run_endLoop (P:=P) hr1 hr2;obtain⟨e',w4,hR',hc⟩:=hw b cs a ha hb hk hr;refine⟨e',w4,hR',hc.of_steps (.head henter (hsteps.trans (.head ?_ (.one (stepR_endRangeFunc hend)))))⟩;rw[<-finish_atR_inRangeFunc _ v];exact step_leave_returned hleave
 |panicked ch=>
  refine⟨.pan ch f (φ.mark w.heap.size).ds,w₃,hR,a,.inRangeFunc (w.heap.size+1)::k,ha,.head henter (hsteps.trans (.one ?_))⟩;rw[<-Frame.raise_atR];exact step_leave_panicked hleave
def Aso(P:Program)(l:Nat)(R:Ending->World->Prop):Qy->World->Prop
 | .lv j _ [],w=>∃v w',(Instr.endRound l j).run P w=.ok v w'/\R (.returned v) w'
 | .pan ch _ [],w=>R (.panicked ch) w
 |_,_=>False
theorem WO{l:Nat}{w':World}(hro:φ.ro=some l)(hr:(Instr.beginRound l).run P w=.ok () w')(h:WT P φ N k R f w'):WT P φ N (.beginRound::k) R f w:=GG (λ_ _ _ _ _ hb=>stepR_beginRound (hb.trans hro) hr) h
theorem Aih{l:Nat}{fn:FuncId}{tmps:Array Value}{as bd:Code}{R:Ending->World->Prop}(hF:∃F,P.funcs[fn]?=some F)(ha:Is N tmps f)(h:WT P ⟨fn,some l,[]⟩ N [.code as,.beginRound,.code bd] (Aso P l R) f w):Rnd P l fn tmps as bd w R:=by
 refine⟨trivial,λc cs _=>?_⟩;let b:Frame:={(default:Frame) with fn:=fn,kind:=.normal,roundOf:=some l}
 have hb0:Frame.round l fn tmps as bd .normal=b.atR ⟨tmps,[]⟩ [.code as,.beginRound,.code bd]:=by simp [Frame.round,Frame.atR,b]
 obtain⟨e,w1,hR,hc⟩:=h b (c::cs) tmps ha rfl rfl rfl;rw[<-hb0]at hc;cases e with
 |pan ch f' ds=>
  cases ds with
  |cons _ _=>exact hR.elim
  |nil=>
   obtain⟨a,td,_,hs⟩:=hc;exact⟨.panicked ch,w1,hR,comesIn_wide.2 (hs.trans (.one (step_leave_panicked ⟨rfl,rfl,hF⟩)))⟩
 |lv j f' ds=>
  cases ds with
  |cons _ _=>exact hR.elim
  |nil=>
   obtain⟨a,td,_,hj,hs⟩:=hc;obtain⟨v,w2,hend,hR⟩:=hR;have fin:step P (lone (b.atR ⟨a,[]⟩ td) (c::cs) w1)=.next (lone (c.finish v) cs w2)->∃e w',R e w'/\ComesIn (Machine.fenced P Fence.wide) P (lone (Frame.round l fn tmps as bd .normal) (c::cs) w) (match e with
     | .returned v=>lone (c.finish v) cs w'
     | .panicked chain=>lone (c.raise chain) cs w'
     | .outgrown=>lone c cs w') e:=λhst=>⟨.returned v,w2,hR,comesIn_wide.2 (hs.trans (.one hst))⟩
   cases j with
   |none=>obtain rfl:td=[]:=hj;exact fin (stepR_round_end rfl rfl hend)
   |some j=>
    cases j with
    |ret=>obtain⟨k',rfl⟩:=hj;exact fin (stepR_round_ret rfl rfl hend)
    |exit id=>obtain⟨k',rfl,hx⟩:=hj;exact fin (stepR_round_exit rfl rfl hx hend)
    |_=>exact hj.elim
def Adp(N:Nat):List Tmp->List Value->Fr->Fr
 |p::ps,v::vs,f=>Adp N ps vs (DO N f p v)
 |_,_,f=>f
def Clb(P:Program)(v:Value)(vs:List Value)(w:World)(R:Ending->World->Prop):Prop:=(∃g first cap,v=.func (.func g) first cap/\CU P g=true/\Calls P g ⟨first.toList++vs++cap.toList⟩ w R)∨(∃l r,v=.func (.yield l) #[] #[]/\w.heap[l]?=some (.loop r)/\vs.length=r.params.size/\Rnd P l r.fn ((r.params.zip ⟨vs⟩).foldl (λtmps(t,a)=>tmps.setIfInBounds t a) r.tmps) r.assign r.body w R)
theorem Clb.mono{v:Value}{vs:List Value}{R R':Ending->World->Prop}(h:Clb P v vs w R)(hr:∀e w,R e w->R' e w):Clb P v vs w R':=by
 rcases h with ⟨g,first,cap,h1,h2,h3⟩|⟨l,r,h1,h2,h3,h4⟩
 .exact .inl ⟨g,first,cap,h1,h2,Calls.mono h3 hr⟩
 .exact .inr ⟨l,r,h1,h2,h3,RoundIn.mono h4 hr⟩
theorem Yq{f:Fr}:∀(ps:List Tmp)(vs:List Value)(f:Fr)(a:Array Value),Is N a f->Is N ((ps.zip vs).foldl (λ(tmps:Array Value)(p:Tmp×Value)=>tmps.setIfInBounds p.1 p.2) a) (Adp N ps vs f)
 |[],_,f,a,h|_::_,[],f,a,h=>by simpa [Adp] using h
 |p::ps,v::vs,f,a,h=>by
  obtain⟨a',h1,h2⟩:=h.put (ds:=[]) (some p) v;have:a'=a.setIfInBounds p v:=by simp only[Act.put]at h1;injection h1 with h1;exact h1.symm
  subst this;simp only[List.zip_cons_cons,List.foldl_cons,Adp];exact Yq (f:=f) ps vs _ _ h2
theorem Awb{ps:Array Tmp}{vs:List Value}{a:Array Value}(h:Is N a f):Is N ((ps.zip ⟨vs⟩).foldl (λtmps(t,a)=>tmps.setIfInBounds t a) a) (Adp N ps.toList vs f):=by have:=Yq (f:=f) ps.toList vs f a h;rw[<-Array.foldl_toList];simpa using this
section
variable {Rp:List PanicEntry->World->Prop} {ops:Array Oper} {K:Fr->World->Prop} {os:List Oper} {dst:Option Tmp} {ty:TypeId} {pos:String} {af:Array Edge}
theorem Azg{fv:Operand}{as:Array Operand}{at_:Array TypeId}{vs:List Value}(ha:as.toList.map (ev f)=vs)(h:Clb P (ev f fv) vs w λe w'=>match e with
   | .returned v=>WL P N ops Rp false K os (put N f dst v) w'
   | .panicked ch=>Rp ch w'
   | .outgrown=>False):WL P N ops Rp false K (⟨dst,.call ⟨.value fv,as,at_⟩,ty,pos,af,none⟩::os) f w:=by
 rcases h with ⟨g,first,cap,h1,h2,h3⟩|⟨l,r,h1,h2,h3,h4⟩
 .exact Agk h1 h2 (by rw[ha]) h3
 .have he:(execOp (ev f) ⟨dst,.call ⟨.value fv,as,at_⟩,ty,pos,af,none⟩).run P w=.ok (.round l r.fn ((r.params.zip ⟨vs⟩).foldl (λtmps(t,a)=>tmps.setIfInBounds t a) r.tmps) r.assign r.body) w:=by
   have hs:(as.map (ev f))=⟨vs⟩:=by rw[<-ha];exact(Array.toArray_toList).symm.trans (by rw[Array.toList_map])
   simp only[execOp,resolve,h1,Sem.run_bind,Sem.run_pure,Result.andThen_ok,Deferred.ofValue,invoke,hs];have:=run_yield (P:=P) (args:=⟨vs⟩) h2 h3;rw[Array.empty_append];exact this
  simp only[WL,Region.wanted,if_true,he,UP];exact⟨trivial,h4⟩
end
end
end
section
section
variable {P:Program} {φ:FK} {N:Nat} {k:List Item} {R:Qy->World->Prop} {f:Fr} {w:World}
def Qd(P:Program)(φ:FK)(N:Nat)(k:List Item)(R:Qy->World->Prop):Exit->Act->World->Prop
 | .normal,a,w=>∃f,Is N a.tmps f/\WT P {φ with ds:=a.defers} N k R f w
 | .panic ch,a,w=>a.defers=φ.ds/\∃f,Is N a.tmps f/\R (.pan ch f φ.ds) w
 |_,_,_=>False
theorem Ah2{c:Code}(h:∀a,Is N a f->c.wpIn φ.ME 0 P (Qd P φ N k R) ⟨a,φ.ds⟩ w):WT P φ N (.code c::k) R f w:=by
 intro b cs a ha hb hk hr;obtain⟨e,a',w',hq,harr⟩:=h a ha b k cs hr trivial (λd hd=>(by cases hd));cases e with
 |normal=>
  obtain⟨f',hf',hw⟩:=hq;obtain⟨t,d⟩:=a';obtain⟨e,w₂,hR,hc⟩:=hw b cs t hf' hb hk hr;exact⟨e,w₂,hR,hc.of_steps (Nb harr)⟩
 |panic ch=>
  obtain⟨hd,f',hf',hR⟩:=hq;obtain⟨t,d⟩:=a';simp only at hd;subst hd;obtain⟨todo,hs⟩:=harr;exact⟨.pan ch f' φ.ds,w',hR,t,todo,hf',Nb hs⟩
 |exit id|goto l|ret|outgrown=>exact hq.elim
theorem Aad{Rp:List PanicEntry->World->Prop}{o:Oper}{a:Array Value}{K':Act->World->Prop}{next:Value->World->Prop}(hp:∀ch w,Rp ch w->∃f,Is N a f/\R (.pan ch f φ.ds) w)(hn:∀v w',next v w'->K' (Act.put ⟨a,φ.ds⟩ o.dst v) w')(h:UP P Rp false next ((execOp (Act.eval ⟨a,φ.ds⟩) o).run P w)):o.wpIn φ.ME 0 P ⟨a,φ.ds⟩ w K' (Qd P φ N k R):=by
 refine⟨λf _=>trivial,?_⟩;rw[Aau h];generalize (execOp (Act.eval ⟨a,φ.ds⟩) o).run P w=r at h;cases r with
 |ok nx w'=>
  cases nx with
  |value v=>exact hn _ _ h
  |skip=>exact hn _ _ h.2
  |enter g args=>
   refine⟨λhd=>(by cases hd),Acx (Calls.mono h.2 λe w''=>?_)⟩;cases e with
   |returned v=>exact hn _ _
   |panicked ch=>exact λh=>⟨rfl,hp _ _ h⟩
   |outgrown=>exact λh=>h.elim
  |round l g tmps as bd=>
   refine⟨λhd=>(by cases hd),Aay (RoundIn.mono h.2 λe w''=>?_)⟩;cases e with
   |returned v=>exact hn _ _
   |panicked ch=>exact λh=>⟨rfl,hp _ _ h⟩
   |outgrown=>exact λh=>h.elim
  |_=>exact False.elim h
 |halt x w'=>
  cases x with
  |panic v=>exact⟨rfl,hp _ _ h.2⟩
  |_=>exact False.elim h
theorem Rr{ops:Array Oper}{cl:Call}{ty:TypeId}{pos:String}{af:Array Edge}(hro:φ.ro=none):∀(os:List Oper)(l:List Nat)(f:Fr)(w:World)(a:Array Value),Is N a f->l.map (ops[·]?)=(os++[(⟨none,.defer cl,ty,pos,af,none⟩:Oper)]).map some->WL P N ops (φ.at R) false (λf w=>∃d w',(resolve (ev f) cl ty).run P w=.ok d w'/\WT P {φ with ds:=d::φ.ds} N k R f w') os f w->wpOpsIn φ.ME 0 P ops (Qd P φ N k R) l ⟨a,φ.ds⟩ w
 | [],[],_,_,_,_,hl,_=>by simp at hl
 | [],[i],f,w,a,ha,hl,h=>by
  simp only[List.map_cons,List.map_nil,List.nil_append,List.cons.injEq,and_true]at hl;obtain⟨d,w',hd,hw⟩:=h;simp only[wpOpsIn,hl];rw[UI ha];have hwt:Region.wanted (⟨none,.defer cl,ty,pos,af,none⟩:Oper) (yl ops f)=true:=by simp [Region.wanted]
  simp only[hwt,if_true];refine⟨λ_ _=>trivial,?_⟩;have hs:(Oper.semAt φ.ME.round (Act.eval ⟨a,φ.ds⟩) ⟨none,.defer cl,ty,pos,af,none⟩).run P w=.ok (.defer d) w':=by show (Oper.semAt φ.ro _ _).run P w=_;rw[hro];rw[G7 ha];simp [Oper.semAt,execOp,hd]
  rw[hs];exact⟨f,ha,hw⟩
 |[],_::_::_,_,_,_,_,hl,_|_::_,[],_,_,_,_,hl,_=>by simp at hl
 |o::os,i::l,f,w,a,ha,hl,h=>by
  simp only[List.cons_append,List.map_cons,List.cons.injEq]at hl;obtain⟨ho,hl⟩:=hl;simp only[wpOpsIn,ho];simp only[WL]at h;rw[UI ha];have next:∀v w',WL P N ops (φ.at R) false (λf w=>∃d w',(resolve (ev f) cl ty).run P w=.ok d w'/\WT P {φ with ds:=d::φ.ds} N k R f w') os (put N f o.dst v) w'->wpOpsIn φ.ME 0 P ops (Qd P φ N k R) l (Act.put ⟨a,φ.ds⟩ o.dst v) w':=λv w' h'=>by obtain⟨a',h1,h2⟩:=ha.put o.dst v;rw[h1];exact Rr hro os l _ _ _ h2 hl h'
  split at h
  .rename_i hw;simp only[hw,if_true];exact Aad (Rp:=φ.at R) (λch w h=>⟨f,ha,h f⟩) next (by rw[G7 ha];exact h)
  .rename_i hw;simp only[hw,if_false,Bool.false_eq_true];exact⟨λ_ _=>trivial,next _ _ h⟩
theorem ZZ{id:Nat}{ops:Array Oper}{os:List Oper}{cl:Call}{ty:TypeId}{pos:String}{af:Array Edge}(hro:φ.ro=none)(hops:ops.toList=os++[⟨none,.defer cl,ty,pos,af,none⟩])(h:WL P N ops (φ.at R) false (λf w=>∃d w',(resolve (ev f) cl ty).run P w=.ok d w'/\WT P {φ with ds:=d::φ.ds} N k R f w') os f w):WT P φ N (.code (.region id ops false)::k) R f w:=
 Ah2 λa ha=>wpIn_region (Rr hro os _ _ _ a ha (by rw[Qa,hops]) h)
end
end
section
section
variable {P:Program} {N:Nat} {ops:Array Oper} {R:List PanicEntry->World->Prop} {mo:Bool} {K:Fr->World->Prop} {os:List Oper} {f:Fr} {w:World}
variable {dst:Option Tmp} {ty:TypeId} {pos:String} {af:Array Edge} {I:BY} {T A:Bh} {t kt et:TypeId} {x:Operand}
variable {b c:Nat} {es:Array MapEntry}
theorem Agh(ht:P.underlying t=some (.map kt et))(hs:St I w ([(b,.map es c)]++T))(hx:ev f x=.map (some b))(h:∀r w',Ext I w I w'->St I w' ([(r,.mapIter (some b) c #[] c)]++([(b,.map es c)]++T))->WL P N ops R mo K os (put N f dst (.pointer (some ⟨r,0,none⟩))) w'):WL P N ops R mo K (⟨dst,.range t x,ty,pos,af,none⟩::os) f w:=by obtain⟨e1,s1⟩:=hs.alloc (.mapIter (some b) c #[] c);refine Ay ?_ (h w.heap.size _ e1 s1);simp [execOp,hx,run_range_map w t kt et b es c ht hs.heap]
variable {r:Nat}
theorem Aas{o o':Obj}(hs:St I w ((r,o)::T)):Ext I w I (ChangeMaps.setBlock w r o')/\St I (ChangeMaps.setBlock w r o') ((r,o')::T):=by
 have hb:=(hs.own (r,o) (by simp)).1;have hlt:r<w.heap.size:=(Array.getElem?_eq_some_iff.1 hb).1;refine hs.write (b:=r) (o:=o) (o':=o') (T:=T) rfl rfl rfl ?_ ?_ λc hc=>?_
 .simp [ChangeMaps.setBlock]
 .simp [ChangeMaps.setBlock,hlt]
 .simp [ChangeMaps.setBlock];exact Array.getElem?_setIfInBounds_ne (λe=>hc e.symm)
theorem Ava{seen:Array Nat}(hs:St I w ([(r,.mapIter (some b) c seen c)]++([(b,.map es c)]++T)))(hb:∀e∈es.toList,e.born<c)(hx:ev f x=.pointer (some ⟨r,0,none⟩))(h0:(leftOf es seen).size=0->WL P N ops R mo K os (put N f dst (.tuple #[.bool false])) w)(h1:∀e∈(leftOf es seen).toList,∀w',Ext I w I w'->St I w' ([(r,.mapIter (some b) c (seen.push e.born) c)]++([(b,.map es c)]++T))->WL P N ops R mo K os (put N f dst (.tuple #[.bool true,e.key,e.val])) w'):WL P N ops R mo K (⟨dst,.next x false,ty,pos,af,none⟩::os) f w:=by
 have hr:=hs.heap;have hm:=hs.Xe.heap;rcases run_next_at (P:=P) w ty r b c c seen es c hr hm hb (Nat.le_refl _) with ⟨hl,hrun⟩|⟨e,he,w1,hw1,hrun⟩
 .refine Ay ?_ (h0 hl);simp [execOp,hx,hrun]
 .have k1:Ext I w I w1/\St I w1 ([(r,.mapIter (some b) c seen c)]++([(b,.map es c)]++T)):=by
   rcases hw1 with rfl|rfl
   .exact⟨Ext.refl _ _,hs⟩
   .exact hs.drew (w.drawn+1)
  obtain⟨k2,k3⟩:=Aas (o':=.mapIter (some b) c (seen.push e.born) c) k1.2;refine Ay ?_ (h1 e he _ (k1.1.trans k2) k3);simp [execOp,hx,hrun]
theorem Aql{seen:Array Nat}{e:MapEntry}(hs:St I w ([(r,.mapIter (some b) c (seen.push e.born) c)]++([(b,.map es c)]++T)))(he:e∈es.toList)(hn:(es.toList.map (·.born)).Nodup)(hx:ev f x=.pointer (some ⟨r,0,none⟩))(h:WL P N ops R mo K os (put N f dst (.tuple #[e.key,e.val])) w):WL P N ops R mo K (⟨dst,.entry x,ty,pos,af,none⟩::os) f w:=by refine Ay ?_ h;simp [execOp,hx,run_entry_at (P:=P) w r b c seen es c e hs.heap hs.Xe.heap he hn]
end
theorem Amz{es:Array MapEntry}:leftOf es #[]=es:=by unfold leftOf;simp
end
end Go.X
namespace Go.Y
open Go Go.RowKit Go.X
section
inductive Ty where
 |int (k:IntKind)
 |bool
 |str
 |ptr
 |mref
 |sl (e:Ty)
 |u (n:Nat)
abbrev I6:Ty:=.int .i64
def Ty.dec:(a b:Ty)->Decidable (a=b)
 | .int j,.int k=>if h:j=k then .isTrue (by rw[h]) else .isFalse (by intro e;cases e;exact h rfl)
 |.bool,.bool|.str,.str|.ptr,.ptr|.mref,.mref=>.isTrue rfl
 | .sl a,.sl b=>match Ty.dec a b with
  | .isTrue h=>.isTrue (by rw[h])
  | .isFalse h=>.isFalse (by intro e;cases e;exact h rfl)
 | .u a,.u b=>if h:a=b then .isTrue (by rw[h]) else .isFalse (by intro e;cases e;exact h rfl)
 | .int _,.mref | .bool,.mref | .str,.mref | .ptr,.mref | .sl _,.mref | .u _,.mref=>.isFalse (by intro e;cases e)
 | .mref,.int _ | .mref,.bool | .mref,.str | .mref,.ptr | .mref,.sl _ | .mref,.u _=>.isFalse (by intro e;cases e)
 | .int _,.bool | .int _,.str | .int _,.ptr | .int _,.sl _ | .int _,.u _=>.isFalse (by intro e;cases e)
 | .bool,.int _ | .bool,.str | .bool,.ptr | .bool,.sl _ | .bool,.u _=>.isFalse (by intro e;cases e)
 | .str,.int _ | .str,.bool | .str,.ptr | .str,.sl _ | .str,.u _=>.isFalse (by intro e;cases e)
 | .ptr,.int _ | .ptr,.bool | .ptr,.str | .ptr,.sl _ | .ptr,.u _=>.isFalse (by intro e;cases e)
 | .sl _,.int _ | .sl _,.bool | .sl _,.str | .sl _,.ptr | .sl _,.u _=>.isFalse (by intro e;cases e)
 | .u _,.int _ | .u _,.bool | .u _,.str | .u _,.ptr | .u _,.sl _=>.isFalse (by intro e;cases e)
instance:DecidableEq Ty:=Ty.dec
abbrev den(D:Nat->Type):Ty->Type
 | .int _=>Int
 | .bool=>Bool
 | .str=>ByteArray
 |.ptr|.mref=>Option Nat
 | .sl e=>List (den D e)
 | .u n=>D n
structure Lf(D:Nat->Type) where
 t:Ty
 x:den D t
def Ty.leaf:Ty->Bool
 | .u _=>false
 |_=>true
structure US where
 D:Nat->Type
 sig:Nat->List Ty
 flat:(n:Nat)->D n->List (Lf D)
 Ah5:(n:Nat)->List (Lf D)->Option (D n)
 Sm:∀n x,(flat n x).map (·.t)=sig n
 Rv:∀n l x,Ah5 n l=some x->flat n x=l
 Aar:∀n,∀t∈sig n,t.leaf=true
 Af3:∀n,0<(sig n).length
section
variable (S:US)
def sz:Ty->Nat
 | .u n=>(S.sig n).length
 |_=>1
inductive F2{α β:Type}(R:α->β->Prop):List α->List β->Prop
 |nil:F2 R [] []
 |cons {a b as bs}:R a b->F2 R as bs->F2 R (a::as) (b::bs)
theorem F2.len{α β:Type}{R:α->β->Prop}{l:List α}{m:List β}(h:F2 R l m):l.length=m.length:=by
 induction h with
 |nil=>rfl
 |cons _ _ ih=>simp [ih]
theorem F2.mono{α β:Type}{R R':α->β->Prop}{l:List α}{m:List β}(h:F2 R l m)(f:∀a b,R a b->R' a b):F2 R' l m:=by
 induction h with
 |nil=>exact .nil
 |cons h _ ih=>exact .cons (f _ _ h) ih
variable {α β:Type}
theorem F2.mem{R:α->β->Prop}{l:List α}{m:List β}(h:F2 R l m):∀a∈l,∃b∈m,R a b:=by
 induction h with
 |nil=>intro a ha;cases ha
 |cons h _ ih=>
  intro a ha;rcases List.mem_cons.1 ha with rfl|ha
  .exact⟨_,by simp,h⟩
  .obtain⟨b,hb,hr⟩:=ih a ha;exact⟨b,by simp [hb],hr⟩
theorem F2.get{R:α->β->Prop}{l:List α}{m:List β}(h:F2 R l m):∀{i:Nat}{b:β},m[i]?=some b->∃a,l[i]?=some a/\R a b:=by
 induction h with
 |nil=>intro i b hb;simp at hb
 |cons h _ ih=>
  intro i b hb;cases i with
  |zero=>simp at hb;subst hb;exact⟨_,by simp,h⟩
  |succ i=>simp at hb;simpa using ih hb
theorem F2.get'{R:α->β->Prop}{l:List α}{m:List β}(h:F2 R l m):∀{i:Nat}{a:α},l[i]?=some a->∃b,m[i]?=some b/\R a b:=by
 induction h with
 |nil=>intro i b hb;simp at hb
 |cons h _ ih=>
  intro i b hb;cases i with
  |zero=>simp at hb;subst hb;exact⟨_,by simp,h⟩
  |succ i=>simp at hb;simpa using ih hb
theorem F2.take{R:α->β->Prop}{l:List α}{m:List β}(h:F2 R l m):∀n,F2 R (l.take n) (m.take n):=by
 induction h with
 |nil=>intro n;simp;exact .nil
 |cons h _ ih=>
  intro n;cases n with
  |zero=>exact .nil
  |succ n=>exact .cons h (ih n)
theorem F2.drop{R:α->β->Prop}{l:List α}{m:List β}(h:F2 R l m):∀n,F2 R (l.drop n) (m.drop n):=by
 induction h with
 |nil=>intro n;simp;exact .nil
 |cons h h2 ih=>
  intro n;cases n with
  |zero=>exact .cons h h2
  |succ n=>exact ih n
theorem F2.app{R:α->β->Prop}{l l':List α}{m m':List β}(h:F2 R l m)(h':F2 R l' m'):F2 R (l++l') (m++m'):=by
 induction h with
 |nil=>exact h'
 |cons h _ ih=>exact .cons h ih
def Vf(ru:(n:Nat)->BY->World->Value->S.D n->Prop):(t:Ty)->BY->World->Value->den S.D t->Prop
 | .int k,_,_,v,n=>v=.int k n/\Ag k n
 | .bool,_,_,v,b=>v=.bool b
 | .str,_,_,v,s=>v=.string s/\s.size<=NS
 | .ptr,_,_,v,p=>v=.pointer (p.map λb=>⟨b,0,none⟩)
 | .mref,_,_,v,p=>v=.map p
 | .sl e,I,w,v,xs=>∃a cap,v=.slice a xs.length cap/\xs.length<=cap/\cap<=NS/\
  (xs=[]∨∃b off,a=some ⟨b,off,none⟩/\I b/\∀j(h:j<xs.length),∃v,Vf ru e I w v xs[j]/\Dl w ⟨b,off+j*sz S e,none⟩ v)
 | .u n,I,w,v,x=>ru n I w v x
def Ul:Nat->(n:Nat)->BY->World->Value->S.D n->Prop
 |0=>λ_ _ _ _ _=>False
 |f+1=>λn I w v x=>∃cs:List Value,v=.agg ⟨cs⟩/\F2 (λc(l:Lf S.D)=>Vf S (Ul f) l.t I w c l.x) cs (S.flat n x)
theorem YR{ru ru':(n:Nat)->BY->World->Value->S.D n->Prop}(h:∀n I w v x,ru n I w v x->ru' n I w v x):∀(t:Ty)(I:BY)(w:World)(v:Value)(x:den S.D t),Vf S ru t I w v x->Vf S ru' t I w v x
 |.int _,_,_,_,_,r|.bool,_,_,_,_,r|.str,_,_,_,_,r|.ptr,_,_,_,_,r|.mref,_,_,_,_,r=>r
 | .sl e,I,w,v,xs,⟨a,cap,h1,h2,h3,h4⟩=>⟨a,cap,h1,h2,h3,h4.imp id λ⟨b,off,ha,hb,he⟩=>⟨b,off,ha,hb,λj hj=>by obtain⟨v,hv,hp⟩:=he j hj;exact⟨v,YR h e _ _ _ _ hv,hp⟩⟩⟩
 | .u n,I,w,v,x,r=>h n I w v x r
theorem XN:∀(f n:Nat)(I:BY)(w:World)(v:Value)(x:S.D n),Ul S f n I w v x->Ul S (f+1) n I w v x
 |0,_,_,_,_,_,h=>h.elim
 |f+1,n,I,w,v,x,⟨cs,h1,h2⟩=>⟨cs,h1,h2.mono λc l r=>YR S (XN f) _ _ _ _ _ r⟩
theorem Ap8{f g:Nat}(hfg:f<=g)(n:Nat)(I:BY)(w:World)(v:Value)(x:S.D n)(h:Ul S f n I w v x):Ul S g n I w v x:=by
 induction hfg with
 |refl=>exact h
 |step _ ih=>exact XN S _ _ _ _ _ _ ih
def rp(t:Ty)(I:BY)(w:World)(v:Value)(x:den S.D t):Prop:=∃f,Vf S (Ul S f) t I w v x
theorem YS{f g:Nat}(hfg:f<=g){t:Ty}{I:BY}{w:World}{v:Value}{x:den S.D t}(h:Vf S (Ul S f) t I w v x):Vf S (Ul S g) t I w v x:=YR S (Ap8 S hfg) _ _ _ _ _ h
variable {S}
theorem Yy{p:Nat->Nat->Prop}(hm:∀j f g,f<=g->p j f->p j g):∀n,(∀j,j<n->∃f,p j f)->∃f,∀j,j<n->p j f
 |0,_=>⟨0,λj h=>by omega⟩
 |n+1,h=>by
  obtain⟨f,hf⟩:=Yy hm n λj hj=>h j (by omega);obtain⟨g,hg⟩:=h n (by omega);refine⟨max f g,λj hj=>?_⟩;by_cases hjn:j=n
  .subst hjn;exact hm _ _ _ (Nat.le_max_right _ _) hg
  .exact hm _ _ _ (Nat.le_max_left _ _) (hf j (by omega))
variable {I:BY} {w:World} {v:Value}
theorem AX{k:IntKind}{n:Int}:rp S (.int k) I w v n↔v=.int k n/\Ag k n:=⟨λ⟨_,h⟩=>h,λh=>⟨0,h⟩⟩
theorem GO{b:Bool}:rp S .bool I w v b↔v=.bool b:=⟨λ⟨_,h⟩=>h,λh=>⟨0,h⟩⟩
theorem LU{s:ByteArray}:rp S .str I w v s↔v=.string s/\s.size<=NS:=⟨λ⟨_,h⟩=>h,λh=>⟨0,h⟩⟩
theorem KN{p:Option Nat}:rp S .ptr I w v p↔v=.pointer (p.map λb=>⟨b,0,none⟩):=⟨λ⟨_,h⟩=>h,λh=>⟨0,h⟩⟩
theorem Ky{p:Option Nat}:rp S .mref I w v p↔v=.map p:=⟨λ⟨_,h⟩=>h,λh=>⟨0,h⟩⟩
theorem R8{e:Ty}{xs:List (den S.D e)}:rp S (.sl e) I w v xs↔∃a cap,v=.slice a xs.length cap/\xs.length<=cap/\cap<=NS/\(xs=[]∨∃b off,a=some ⟨b,off,none⟩/\I b/\∀j(h:j<xs.length),∃v,rp S e I w v xs[j]/\Dl w ⟨b,off+j*sz S e,none⟩ v):=by
 constructor
 .rintro⟨f,a,cap,h1,h2,h3,h4⟩;refine⟨a,cap,h1,h2,h3,h4.imp id λ⟨b,off,ha,hb,he⟩=>⟨b,off,ha,hb,λj hj=>?_⟩⟩;obtain⟨v,hv,hp⟩:=he j hj;exact⟨v,⟨f,hv⟩,hp⟩
 .rintro⟨a,cap,h1,h2,h3,h4⟩;rcases h4 with h4|⟨b,off,ha,hb,he⟩
  .exact⟨0,a,cap,h1,h2,h3,.inl h4⟩
  .obtain⟨f,hf⟩:=Yy (p:=λj f=>∀hj:j<xs.length,∃v,Vf S (Ul S f) e I w v xs[j]/\Dl w ⟨b,off+j*sz S e,none⟩ v)
    (λj f g hfg h hj=>by obtain⟨v,h1,h2⟩:=h hj;exact⟨v,YS S hfg h1,h2⟩) xs.length
    (λj hj=>by obtain⟨v,⟨f,h1⟩,h2⟩:=he j hj;exact⟨f,λ_=>⟨v,h1,h2⟩⟩)
   exact⟨f,a,cap,h1,h2,h3,.inr ⟨b,off,ha,hb,λj hj=>hf j hj hj⟩⟩
theorem Ao1{cs:List Value}{ls:List (Lf S.D)}(h:F2 (λc(l:Lf S.D)=>rp S l.t I w c l.x) cs ls):∃f,F2 (λc(l:Lf S.D)=>Vf S (Ul S f) l.t I w c l.x) cs ls:=by
 induction h with
 |nil=>exact⟨0,.nil⟩
 |cons h _ ih=>
  obtain⟨f,hf⟩:=ih;obtain⟨g,hg⟩:=h;exact⟨max f g,.cons (YS S (Nat.le_max_right _ _) hg) (hf.mono λc l r=>YS S (Nat.le_max_left _ _) r)⟩
theorem Hq{n:Nat}{x:S.D n}:rp S (.u n) I w v x↔∃cs:List Value,v=.agg ⟨cs⟩/\F2 (λc(l:Lf S.D)=>rp S l.t I w c l.x) cs (S.flat n x):=by
 constructor
 .rintro⟨f,hf⟩;cases f with
  |zero=>exact hf.elim
  |succ f=>obtain⟨cs,h1,h2⟩:=hf;exact⟨cs,h1,h2.mono λc l r=>⟨f,r⟩⟩
 .rintro⟨cs,h1,h2⟩;obtain⟨f,hf⟩:=Ao1 h2;exact⟨f+1,cs,h1,hf⟩
theorem Ak2(t:Ty):0<sz S t:=by cases t<;>simp only[sz]<;>first|exact Nat.one_pos|exact S.Af3 _
variable {t:Ty}
theorem J1(ht:t.leaf=true){x:den S.D t}(h:rp S t I w v x):v.cells=#[v]/\v.oneCell'=true:=by
 cases t with
 |int k=>rw[(AX.1 h).1];exact⟨rfl,rfl⟩
 |bool=>rw[GO.1 h];exact⟨rfl,rfl⟩
 |str=>rw[(LU.1 h).1];exact⟨rfl,rfl⟩
 |ptr=>rw[KN.1 h];exact⟨rfl,rfl⟩
 |mref=>rw[Ky.1 h];exact⟨rfl,rfl⟩
 |sl e=>obtain⟨a,cap,h,_⟩:=R8.1 h;rw[h];exact⟨rfl,rfl⟩
 |u n=>simp [Ty.leaf]at ht
theorem Pv{n:Nat}{x:S.D n}:∀l∈S.flat n x,l.t.leaf=true:=λl hl=>S.Aar n _ (by rw[<-S.Sm n x];exact List.mem_map_of_mem hl)
theorem Aax{x:den S.D t}(h:rp S t I w v x):v.cells.size=sz S t:=by
 cases t with
 |u n=>
  obtain⟨cs,rfl,h2⟩:=Hq.1 h;have:=h2.len;show cs.length=_;rw[this,sz,<-S.Sm n x,List.length_map]
 |_=>exact congrArg Array.size (J1 rfl h).1
theorem W7{cs:List Value}{ls:List (Lf S.D)}(h:F2 (λc(l:Lf S.D)=>rp S l.t I w c l.x) cs ls):(∀l∈ls,l.t.leaf=true)->∀c∈cs,c.oneCell'=true:=by
 induction h with
 |nil=>intro _ c hc;cases hc
 |cons h _ ih=>
  intro hl c hc;rcases List.mem_cons.1 hc with rfl|hc
  .exact(J1 (hl _ List.mem_cons_self) h).2
  .exact ih (λl h=>hl l (List.mem_cons_of_mem _ h)) c hc
theorem Ti{I I':BY}{w w':World}(e:Ext I w I' w'){ru:(n:Nat)->BY->World->Value->S.D n->Prop}(hu:∀n v x,ru n I w v x->ru n I' w' v x):∀(t:Ty)(v:Value)(x:den S.D t),Vf S ru t I w v x->Vf S ru t I' w' v x
 |.int _,_,_,r|.bool,_,_,r|.str,_,_,r|.ptr,_,_,r|.mref,_,_,r=>r
 | .sl t,v,xs,⟨a,cap,h1,h2,h3,h4⟩=>⟨a,cap,h1,h2,h3,h4.imp id λ⟨b,off,ha,hb,he⟩=>⟨b,off,ha,e.sub b hb,λj hj=>by obtain⟨v,hv,hp⟩:=he j hj;exact⟨v,Ti e hu t _ _ hv,Dl.mono e hb hp⟩⟩⟩
 | .u n,v,x,r=>hu n v x r
theorem XO{I I':BY}{w w':World}(e:Ext I w I' w'):∀(f n:Nat)(v:Value)(x:S.D n),Ul S f n I w v x->Ul S f n I' w' v x
 |0,_,_,_,h=>h.elim
 |f+1,_,_,_,⟨cs,h1,h2⟩=>⟨cs,h1,h2.mono λc l r=>Ti e (XO e f) _ _ _ r⟩
theorem EX{I':BY}{w':World}(e:Ext I w I' w'){x:den S.D t}(h:rp S t I w v x):rp S t I' w' v x:=by obtain⟨f,hf⟩:=h;exact⟨f,Ti e (XO e f) _ _ _ hf⟩
def isU:Ty->Bool
 | .u _=>true
 |_=>false
@[reducible] def RT(S:US)(t:Ty):AT (den S.D t) where
 size:=sz S t
 agg:=isU t
 rep:=rp S t
 pos:=Ak2 t
 cells h:=Aax h
 form {I w v x} h:=by
  cases t with
  |u n=>obtain⟨cs,rfl,_⟩:=Hq.1 h;exact⟨_,rfl⟩
  |_=>exact(J1 rfl h).1
 one {I w v x} h:=by
  cases t with
  |u n=>
   obtain⟨cs,rfl,h2⟩:=Hq.1 h;exact W7 h2 Pv
  |_=>rw[(J1 rfl h).1];intro c hc;simp at hc;subst hc;exact(J1 rfl h).2
 mono e h:=EX e h
end
end
section
inductive OL(D:Nat->Type) where
 |dat (l:Lf D)
 |own (t:Ty) (xs:List (den D t))
 |map (k v:Ty) (m:List (den D k×den D v))
 |ownO (t:Ty) (o:Option (List (den D t)))
@[reducible] def Ew(S:US)(dq:(n:Nat)->DecidableEq (S.D n)):(t:Ty)->DecidableEq (den S.D t)
 | .int _=>inferInstanceAs (DecidableEq Int)
 | .bool=>inferInstanceAs (DecidableEq Bool)
 | .str=>inferInstanceAs (DecidableEq ByteArray)
 |.ptr|.mref=>inferInstanceAs (DecidableEq (Option Nat))
 | .u n=>dq n
 | .sl e=>@instDecidableEqList _ (Ew S dq e)
inductive RK where
 |dat (t:Ty)
 |own (t:Ty)
 |map (k e:Ty)
 |ownO (t:Ty)
structure Sys extends US where
 P:Program
 ty:TypeId->Option Ty
 deq:(n:Nat)->DecidableEq (D n)
 gls:Nat->Option ((T:Ty)×List (den D T))
 O:Nat->Type
 Aly:Nat->List RK
 ocl:(n:Nat)->O n->List (OL D)
 oun:(n:Nat)->List (OL D)->Option (O n)
 Alx:∀n l x,oun n l=some x->ocl n x=l
 ok:TypeId->Option Nat
 km:TypeId->Ty->Bool
 Am3:∀t k,km t k=true->@Jp P t (den D k) (RT toUS k) (Ew toUS deq k)
 eqs:TypeId->Ty->Bool
 Ati:∀t k,eqs t k=true->P.eqGuardType P.depth t=false/\∀I w v u(x y:den D k),rp toUS k I w v x->rp toUS k I w u y->∀w',(Op.equal t v u).run P w'=.ok (@decide (x=y) (Ew toUS deq k x y)) w'
inductive Ob(Y:Sys) where
 |st (n:Nat) (x:Y.O n)
 |mp (k v:Ty) (m:List (den Y.D k×den Y.D v))
 |lp (r:Loop)
section
variable (Y:Sys)
@[reducible] def Hw(t:Ty):DecidableEq (den Y.D t):=Ew Y.toUS Y.deq t
abbrev ND(t:Ty)(I:BY)(w:World)(A:Bh)(v:Value)(xs:List (den Y.D t)):Prop:=@Bw _ (RT Y.toUS t) I w A v xs
abbrev WN(k e:Ty)(I:BY)(w:World)(A:Bh)(v:Value)(m:List (den Y.D k×den Y.D e)):Prop:=@C4 _ _ (RT Y.toUS k) (RT Y.toUS e) I w A v m
def OR(I:BY)(w:World):List Value->List (OL Y.D)->Bh->Prop
 | [],[],A=>A=[]
 |v::vs,.dat l::ls,A=>rp Y.toUS l.t I w v l.x/\v.oneCell'=true/\OR I w vs ls A
 |v::vs,.own t xs::ls,A=>∃A1 A2,A=A1++A2/\ND Y t I w A1 v xs/\OR I w vs ls A2
 |v::vs,.map k e m::ls,A=>∃A1 A2,A=A1++A2/\WN Y k e I w A1 v m/\OR I w vs ls A2
 |v::vs,.ownO _ none::ls,A=>v=.slice none 0 0/\OR I w vs ls A
 |v::vs,.ownO t (some xs)::ls,A=>∃A1 A2,A=A1++A2/\ND Y t I w A1 v xs/\OR I w vs ls A2
 |_,_,_=>False
def obR(o:Ob Y)(I:BY)(w:World)(A:Bh)(b:Nat):Prop:=match o with
 | .st n x=>∃arr e A',A=(b,.cells arr e (0,0))::A'/\OR Y I w arr.toList (Y.ocl n x) A'
 | .mp k e m=>WN Y k e I w A (.map (some b)) m
 | .lp r=>A=[(b,.loop r)]
theorem OR.mono{I I':BY}{w w':World}(h:Ext I w I' w'):∀{vs:List Value}{ls:List (OL Y.D)}{A:Bh},OR Y I w vs ls A->OR Y I' w' vs ls A
 | [],[],_,r=>r
 |_::_,.dat _::_,_,⟨r1,r2,r3⟩=>⟨EX h r1,r2,OR.mono h r3⟩
 |_::_,.own _ _::_,_,⟨A1,A2,e,r1,r2⟩=>⟨A1,A2,e,@Bw.mono _ (RT _ _) _ _ _ _ _ _ _ h r1,OR.mono h r2⟩
 |_::_,.map _ _ _::_,_,⟨A1,A2,e,r1,r2⟩=>⟨A1,A2,e,@C4.mono _ _ (RT _ _) (RT _ _) _ _ _ _ _ _ _ r1 h,OR.mono h r2⟩
 |_::_,.ownO _ none::_,_,⟨r1,r2⟩=>⟨r1,OR.mono h r2⟩
 |_::_,.ownO _ (some _)::_,_,⟨A1,A2,e,r1,r2⟩=>⟨A1,A2,e,@Bw.mono _ (RT _ _) _ _ _ _ _ _ _ h r1,OR.mono h r2⟩
 |[],.ownO _ _::_,_,r|[],.dat _::_,_,r|[],.own _ _::_,_,r|[],.map _ _ _::_,_,r|_::_,[],_,r=>r.elim
def P2:HK (Ob Y) where
 ob:=obR Y
 mono {o I w I' w' A b} h r:=by
  cases o with
  |st n x=>obtain⟨arr,e,A',h1,h2⟩:=r;exact⟨arr,e,A',h1,OR.mono Y h h2⟩
  |mp k e m=>exact @C4.mono _ _ (RT _ _) (RT _ _) _ _ _ _ _ _ _ r h
  |lp r'=>exact r
 self {o I w A b} r:=by
  cases o with
  |st n x=>obtain⟨arr,e,A',h1,h2⟩:=r;exact⟨_,_,h1⟩
  |mp k e m=>
   obtain⟨b',es,c,h1,h2,_⟩:=@C4.ex _ _ (RT _ _) (RT _ _) _ _ _ _ _ r;cases h2;exact⟨_,_,h1⟩
  |lp r'=>exact⟨_,[],r⟩
 gl I w:=∀g q,Y.gls g=some q->rp Y.toUS (.sl q.1) I w (.slice (some ⟨g,0,none⟩) q.2.length q.2.length) q.2
 glm e h g q hq:=EX e (h g q hq)
abbrev HH:=Hp (Ob Y)
def Iq:List Ty->Type
 | []=>Unit
 |t::ts=>den Y.D t×Iq ts
def W5(I:BY)(w:World):(ts:List Ty)->Iq Y ts->List Value->Prop
 | [],_,vs=>vs=[]
 |t::ts,x,vs=>∃v vs',vs=v::vs'/\rp Y.toUS t I w v x.1/\W5 I w ts x.2 vs'
def JX:List Value->Value
 | [v]=>v
 |vs=>.tuple ⟨vs⟩
abbrev TF:=TypeId->Lf Y.D->HH Y->Prop
abbrev FT(as rs:List Ty):=Iq Y as->HH Y->(Iq Y rs->HH Y->Prop)->TF Y->Prop
def A4u(g:FuncId)(vs:List Value)(I:BY)(w:World)(T:Bh)(Q:BY->World->Value->Bh->HH Y->Prop)(X:TF Y):Prop:=X6 Y.P g vs I w (λr I' w'=>∃AH' A' H',St I' w' (AH'++(A'++T))/\Hk (P2 Y) I' w' H' AH'/\Q I' w' r A' H') (λv I' w'=>∃AH' H' t l u,St I' w' (AH'++T)/\Hk (P2 Y) I' w' H' AH'/\v=.iface t u/\rp Y.toUS l.t I' w' u l.x/\X t l H')
def Ahw(I:BY)(w:World)(Q X:Value->BY->World->Prop):Ending->World->Prop:=λe w'=>(∃v I',e=.returned v/\Ext I w I' w'/\Q v I' w')∨(∃v I',e=.panicked [{v,recovered:=false}]/\Ext I w I' w'/\X v I' w')
def Ahv(I:BY)(w:World)(T:Bh)(Q:BY->World->Value->Bh->HH Y->Prop)(X:TF Y):Ending->World->Prop:=Ahw I w (λr I' w'=>∃AH' A' H',St I' w' (AH'++(A'++T))/\Hk (P2 Y) I' w' H' AH'/\Q I' w' r A' H') (λv I' w'=>∃AH' H' t l u,St I' w' (AH'++T)/\Hk (P2 Y) I' w' H' AH'/\v=.iface t u/\rp Y.toUS l.t I' w' u l.x/\X t l H')
def FvR(as rs:List Ty)(F:FT Y as rs)(I0:BY)(w0:World)(v:Value):Prop:=(∃g first cap,v=.func g first cap)/\∀a H Q X,F a H Q X->∀I w,Ext I0 w0 I w->∀(T AH:Bh)(vs:List Value),W5 Y I w as a vs->Hk (P2 Y) I w H AH->St I w (AH++T)->Clb Y.P v vs w (Ahv Y I w T (λI' w' r A' H'=>A'=[]/\∃b us,r=JX us/\W5 Y I' w' rs b us/\Q b H') X)
theorem FvR.mono{as rs:List Ty}{F:FT Y as rs}{I I':BY}{w w':World}{v:Value}(e:Ext I w I' w')(h:FvR Y as rs F I w v):FvR Y as rs F I' w' v:=⟨h.1,λa H Q X hF I2 w2 e2=>h.2 a H Q X hF I2 w2 (e.trans e2)⟩
inductive AK where
 |dat (t:Ty)
 |own (t:Ty)
 |map (k e:Ty)
 |mob
 |del (t:Ty)
 |fn (as rs:List Ty)
 |fbx (as rs:List Ty)
structure Bs where
 args:List AK
 res:List RK
def IS:List AK->Type
 | []=>Unit
 | .dat t::l=>den Y.D t×IS l
 | .own t::l=>List (den Y.D t)×IS l
 | .map k e::l=>List (den Y.D k×den Y.D e)×IS l
 | .mob::l=>Nat×IS l
 | .del t::l=>den Y.D t×IS l
 |.fn as rs::l|.fbx as rs::l=>FT Y as rs×IS l
def A0q(t:Ty)(I:BY)(w:World)(x:den Y.D t)(v:Value):Prop:=∃b off u,rp Y.toUS t I w u x/\Dl w ⟨b,off,none⟩ u/\I b/\v=.pointer (some ⟨b,off,none⟩)
def FbR(as rs:List Ty)(F:FT Y as rs)(I:BY)(w:World)(v:Value):Prop:=∃b off u,FvR Y as rs F I w u/\Dl w ⟨b,off,none⟩ u/\I b/\v=.pointer (some ⟨b,off,none⟩)
theorem FbR.mono{as rs:List Ty}{F:FT Y as rs}{I I':BY}{w w':World}{v:Value}(e:Ext I w I' w')(h:FbR Y as rs F I w v):FbR Y as rs F I' w' v:=by obtain⟨b,off,u,h1,h2,h3,h4⟩:=h;exact⟨b,off,u,FvR.mono Y e h1,Dl.mono e h3 h2,e.sub b h3,h4⟩
def ArR(I:BY)(w:World):(l:List AK)->IS Y l->List Value->Bh->Prop
 | [],_,vs,A=>vs=[]/\A=[]
 | .dat t::l,x,vs,A=>∃v vs',vs=v::vs'/\rp Y.toUS t I w v x.1/\ArR I w l x.2 vs' A
 | .own t::l,x,vs,A=>∃v vs' A1 A2,vs=v::vs'/\A=A1++A2/\ND Y t I w A1 v x.1/\ArR I w l x.2 vs' A2
 | .map k e::l,x,vs,A=>∃v vs' A1 A2,vs=v::vs'/\A=A1++A2/\WN Y k e I w A1 v x.1/\ArR I w l x.2 vs' A2
 | .mob::l,x,vs,A=>∃v vs',vs=v::vs'/\v=.map (some x.1)/\ArR I w l x.2 vs' A
 | .del t::l,x,vs,A=>∃v vs',vs=v::vs'/\A0q Y t I w x.1 v/\ArR I w l x.2 vs' A
 | .fn as rs::l,x,vs,A=>∃v vs',vs=v::vs'/\FvR Y as rs x.1 I w v/\ArR I w l x.2 vs' A
 | .fbx as rs::l,x,vs,A=>∃v vs',vs=v::vs'/\FbR Y as rs x.1 I w v/\ArR I w l x.2 vs' A
def Lq:List RK->Type
 | []=>Unit
 | .dat t::l=>den Y.D t×Lq l
 | .own t::l=>List (den Y.D t)×Lq l
 | .map k e::l=>List (den Y.D k×den Y.D e)×Lq l
 | .ownO _::_=>Empty
def ReR(I:BY)(w:World):(l:List RK)->Lq Y l->List Value->Bh->Prop
 | [],_,vs,A=>vs=[]/\A=[]
 | .dat t::l,x,vs,A=>∃v vs',vs=v::vs'/\rp Y.toUS t I w v x.1/\ReR I w l x.2 vs' A
 | .own t::l,x,vs,A=>∃v vs' A1 A2,vs=v::vs'/\A=A1++A2/\ND Y t I w A1 v x.1/\ReR I w l x.2 vs' A2
 | .map k e::l,x,vs,A=>∃v vs' A1 A2,vs=v::vs'/\A=A1++A2/\WN Y k e I w A1 v x.1/\ReR I w l x.2 vs' A2
 | .ownO _::_,_,_,_=>False
def Nz:List AK->Type
 | []=>Unit
 | .own t::l=>List (den Y.D t)×Nz l
 | .map k e::l=>List (den Y.D k×den Y.D e)×Nz l
 | .dat _::l | .mob::l | .fn _ _::l | .del _::l | .fbx _ _::l=>Nz l
def IoR(I:BY)(w:World):(l:List AK)->Nz Y l->List Value->Bh->Prop
 | [],_,_,A=>A=[]
 | .own t::l,x,vs,A=>∃v vs' A1 A2,vs=v::vs'/\A=A1++A2/\ND Y t I w A1 v x.1/\IoR I w l x.2 vs' A2
 | .map k e::l,x,vs,A=>∃v vs' A1 A2,vs=v::vs'/\A=A1++A2/\WN Y k e I w A1 v x.1/\IoR I w l x.2 vs' A2
 |.dat _::l,x,vs,A|.mob::l,x,vs,A|.del _::l,x,vs,A|.fn _ _::l,x,vs,A|.fbx _ _::l,x,vs,A=>IoR I w l x vs.tail A
def Wp(g:FuncId)(σ:Bs)(a:IS Y σ.args)(H:HH Y)(Q:Lq Y σ.res->Nz Y σ.args->HH Y->Prop)(X:TF Y):Prop:=∀(I:BY)(w:World)(T A AH:Bh)(vs:List Value),ArR Y I w σ.args a vs A->Hk (P2 Y) I w H AH->St I w (AH++(A++T))->A4u Y g vs I w T (λI' w' r A' H'=>∃b io us A1 A2,A'=A1++A2/\r=JX us/\ReR Y I' w' σ.res b us A1/\IoR Y I' w' σ.args io vs A2/\Q b io H') X
structure B3 where
 I:BY
 w:World
 n:Nat
 μ:Nat->Value
 φ:Fr
structure Le(g g':B3):Prop where
 ext:Ext g.I g.w g'.I g'.w
 n:g.n<=g'.n
 μ:∀i,i<g.n->g'.μ i=g.μ i
 φ:g'.φ=g.φ
structure Lx(g g':B3):Prop where
 ext:Ext g.I g.w g'.I g'.w
 n:g.n<=g'.n
 μ:∀i,i<g.n->g'.μ i=g.μ i
variable {a b:B3}
theorem Lx.trans{c:B3}(h:Lx a b)(k:Lx b c):Lx a c:=⟨h.ext.trans k.ext,Nat.le_trans h.n k.n,λi hi=>(k.μ i (Nat.lt_of_lt_of_le hi h.n)).trans (h.μ i hi)⟩
theorem Le.lx(h:Le a b):Lx a b:=⟨h.ext,h.n,h.μ⟩
theorem Lx.refl(g:B3):Lx g g:=⟨Ext.refl _ _,Nat.le_refl _,λ_ _=>rfl⟩
theorem Le.refl(g:B3):Le g g:=⟨Ext.refl _ _,Nat.le_refl _,λ_ _=>rfl,rfl⟩
theorem Le.trans{c:B3}(h:Le a b)(k:Le b c):Le a c:=⟨h.ext.trans k.ext,Nat.le_trans h.n k.n,λi hi=>(k.μ i (Nat.lt_of_lt_of_le hi h.n)).trans (h.μ i hi),k.φ.trans h.φ⟩
inductive AV where
 |dat (t:Ty) (x:den Y.D t)
 |nat (j:Nat)
 |prp (p:Prop) (d:Decidable p)
 |own (i:Nat)
 |adr (i o:Nat)
 |el (i:Nat) (t:Ty) (j o:Nat)
 |del (t:Ty) (x:den Y.D t) (o:Nat)
 |ptr (w:Nat) (p:Option Nat)
 |hp (w b o:Nat)
 |mob (b:Nat)
 |sub (i:Nat) (T:Ty) (lo:Nat)
 |val (v:Value)
 |ifc (t:TypeId) (T:Ty) (x:den Y.D T)
 |fn (as rs:List Ty) (F:FT Y as rs)
 |fbx (as rs:List Ty) (F:FT Y as rs)
inductive C6 where
 |blk (cs:List (AV Y))
 |sl (t:Ty) (xs:List (den Y.D t))
 |mp (k e:Ty) (m:List (den Y.D k×den Y.D e))
 |tp (l:List (AV Y))
 |ag (cs:List (AV Y))
 |clo (g:FuncId) (fs cs:List (AV Y))
structure WM where
 i:Nat
 b:Nat
 n:Nat
 x:Option (Y.O n)
structure Hs where
 w:Nat
 b:Nat
 n:Option Nat
structure Cf where
 fr:List (Nat×AV Y)
 sg:List (Nat×C6 Y)
 nx:Nat
 H:HH Y
 op:Option (WM Y)
 hs:List Hs
 pt:List Nat
variable {Y}
def AR(g:B3):AV Y->Value->Prop
 | .dat t x,v=>rp Y.toUS t g.I g.w v x
 | .nat j,v=>v=.int .i64 j/\j<=9223372036854775807
 | .prp p d,v=>v=.bool (@decide p d)
 | .own i,v=>i<g.n/\v=g.μ i
 | .adr i o,v=>i<g.n/\∃b,g.μ i=.pointer (some ⟨b,0,none⟩)/\v=.pointer (some ⟨b,o,none⟩)
 | .el i t j o,v=>i<g.n/\∃b off len cap,g.μ i=.slice (some ⟨b,off,none⟩) len cap/\v=.pointer (some ⟨b,off+j*sz Y.toUS t+o,none⟩)
 | .del t x o,v=>∃b off u,rp Y.toUS t g.I g.w u x/\Dl g.w ⟨b,off,none⟩ u/\g.I b/\v=.pointer (some ⟨b,off+o,none⟩)
 | .ptr i p,v=>i<g.n/\g.μ i=v/\v=.pointer (p.map λb=>⟨b,0,none⟩)
 | .hp i b o,v=>i<g.n/\g.μ i=.pointer (some ⟨b,0,none⟩)/\v=.pointer (some ⟨b,o,none⟩)
 | .mob b,v=>v=.map (some b)
 | .sub i T lo,v=>i<g.n/\v=WY (g.μ i) lo (sz Y.toUS T)/\∃a len cap,g.μ i=.slice a len cap/\lo<=len
 | .val u,v=>v=u
 | .ifc t T x,v=>∃u,v=.iface t u/\rp Y.toUS T g.I g.w u x
 | .fn as rs F,v=>FvR Y as rs F g.I g.w v
 | .fbx as rs F,v=>FbR Y as rs F g.I g.w v
theorem AR.mono{g g':B3}(h:Le g g'):∀{a:AV Y}{v:Value},AR g a v->AR g' a v
 | .dat _ _,_,r=>EX h.ext r
 |.nat _,_,r|.prp _ _,_,r=>r
 |.own i,_,⟨r1,r2⟩|.adr i _,_,⟨r1,r2⟩|.el i _ _ _,_,⟨r1,r2⟩=>⟨Nat.lt_of_lt_of_le r1 h.n,by rw[h.μ i r1];exact r2⟩
 | .del _ _ _,_,⟨b,off,u,r1,r2,r3,r4⟩=>⟨b,off,u,EX h.ext r1,Dl.mono h.ext r3 r2,h.ext.sub b r3,r4⟩
 |.ptr i _,_,⟨r1,r2,r3⟩|.hp i _ _,_,⟨r1,r2,r3⟩=>⟨Nat.lt_of_lt_of_le r1 h.n,by rw[h.μ i r1];exact r2,r3⟩
 | .mob _,_,r=>r
 | .sub i _ _,_,⟨r1,r2⟩=>⟨Nat.lt_of_lt_of_le r1 h.n,by rw[h.μ i r1];exact r2⟩
 | .val _,_,r=>r
 | .ifc _ _ _,_,⟨u,r1,r2⟩=>⟨u,r1,EX h.ext r2⟩
 | .fn _ _ _,_,r=>FvR.mono Y h.ext r
 | .fbx _ _ _,_,r=>FbR.mono Y h.ext r
def SR(g:B3)(i:Nat):C6 Y->Bh->Prop
 | .blk cs,A=>∃b arr e,A=[(b,.cells arr e (0,0))]/\g.μ i=.pointer (some ⟨b,0,none⟩)/\F2 (λa v=>AR g a v/\v.oneCell'=true) cs arr.toList
 | .sl t xs,A=>ND Y t g.I g.w A (g.μ i) xs
 | .mp k e m,A=>WN Y k e g.I g.w A (g.μ i) m
 | .tp l,A=>A=[]/\∃vs:List Value,g.μ i=.tuple ⟨vs⟩/\F2 (AR g) l vs
 | .ag cs,A=>A=[]/\∃vs:List Value,g.μ i=.agg ⟨vs⟩/\F2 (λa v=>AR g a v/\v.oneCell'=true) cs vs
 | .clo f l m,A=>A=[]/\∃vs us:List Value,g.μ i=.func (.func f) ⟨vs⟩ ⟨us⟩/\F2 (AR g) l vs/\F2 (AR g) m us
theorem SR.mono{g g':B3}(h:Le g g'){i:Nat}(hi:i<g.n):∀{s:C6 Y}{A:Bh},SR g i s A->SR g' i s A
 | .blk _,_,⟨b,arr,e,r1,r2,r3⟩=>⟨b,arr,e,r1,by rw[h.μ i hi];exact r2,r3.mono λ_ _ r=>⟨r.1.mono h,r.2⟩⟩
 | .sl _ _,_,r=>by show ND _ _ _ _ _ _ _;rw[h.μ i hi];exact @Bw.mono _ (RT _ _) _ _ _ _ _ _ _ h.ext r
 | .mp _ _ _,_,r=>by show WN _ _ _ _ _ _ _ _;rw[h.μ i hi];exact @C4.mono _ _ (RT _ _) (RT _ _) _ _ _ _ _ _ _ r h.ext
 | .tp _,_,⟨r1,vs,r2,r3⟩=>⟨r1,vs,by rw[h.μ i hi];exact r2,r3.mono λ_ _ r=>r.mono h⟩
 | .ag _,_,⟨r1,vs,r2,r3⟩=>⟨r1,vs,by rw[h.μ i hi];exact r2,r3.mono λ_ _ r=>⟨r.1.mono h,r.2⟩⟩
 | .clo _ _ _,_,⟨r1,vs,us,r2,r3,r4⟩=>⟨r1,vs,us,by rw[h.μ i hi];exact r2,r3.mono λ_ _ r=>r.mono h,r4.mono λ_ _ r=>r.mono h⟩
def Fv(g:B3):List (Nat×C6 Y)->Bh->Prop
 | [],A=>A=[]
 |p::l,A=>∃A1 A2,A=A1++A2/\p.1<g.n/\SR g p.1 p.2 A1/\Fv g l A2
theorem Fv.mono{g g':B3}(h:Le g g'):∀{l:List (Nat×C6 Y)}{A:Bh},Fv g l A->Fv g' l A
 | [],_,r=>r
 |_::_,_,⟨A1,A2,r1,r2,r3,r4⟩=>⟨A1,A2,r1,Nat.lt_of_lt_of_le r2 h.n,r3.mono h r2,Fv.mono h r4⟩
def HG:List (Nat×C6 Y)->Nat->Option (C6 Y)
 | [],_=>none
 |p::l,i=>if p.1=i then some p.2 else HG l i
def Gb:List (Nat×C6 Y)->Nat->List (Nat×C6 Y)
 | [],_=>[]
 |p::l,i=>if p.1=i then l else p::Gb l i
def Hu:List (Nat×AV Y)->Nat->Option (AV Y)
 | [],_=>none
 |p::l,i=>if p.1=i then some p.2 else Hu l i
theorem Fv.take{g:B3}{i:Nat}{s:C6 Y}:∀{l:List (Nat×C6 Y)}{A:Bh},Fv g l A->HG l i=some s->∃A1 A2,A.Perm (A1++A2)/\i<g.n/\SR g i s A1/\Fv g (Gb l i) A2
 | [],_,_,h=>by simp [HG]at h
 |p::l,A,⟨A1,A2,h1,h2,h3,h4⟩,h=>by
  unfold HG at h;by_cases hp:p.1=i
  .rw[if_pos hp]at h;cases h;subst hp;exact⟨A1,A2,h1▸List.Perm.refl _,h2,h3,by rw[Gb,if_pos rfl];exact h4⟩
  .rw[if_neg hp]at h;obtain⟨B1,B2,k1,k2,k3,k4⟩:=Fv.take h4 h;refine⟨B1,A1++B2,?_,k2,k3,by rw[Gb,if_neg hp];exact⟨A1,B2,rfl,h2,h3,k4⟩⟩;subst h1;refine(k1.append_left A1).trans ?_;rw[<-List.append_assoc,<-List.append_assoc];exact List.perm_append_comm.append_right _
def HR(g:B3)(H:HH Y)(sg:List (Nat×C6 Y))(AH:Bh):Option (WM Y)->Prop
 |none=>Hk (P2 Y) g.I g.w H AH
 |some o=>HpX (P2 Y) g.I g.w H o.b AH/\(∀x,o.x=some x->H o.b=some (.st o.n x))/\o.i<g.n/\g.μ o.i=.pointer (some ⟨o.b,0,none⟩)
theorem HR.mono{g g':B3}(h:Le g g'){H:HH Y}{sg sg':List (Nat×C6 Y)}{AH:Bh}:∀{o:Option (WM Y)},HR g H sg AH o->HR g' H sg' AH o
 |none,r=>Hk.mono r h.ext
 |some _,⟨r1,r2,r3,r4⟩=>⟨r1.mono h.ext,r2,Nat.lt_of_lt_of_le r3 h.n,by rw[h.μ _ r3];exact r4⟩
def HsR(g:B3)(l:List Hs):Prop:=∀h∈l,h.w<g.n/\g.μ h.w=.pointer (some ⟨h.b,0,none⟩)
theorem HsR.mono{g g':B3}(h:Le g g'){l:List Hs}(r:HsR g l):HsR g' l:=λx hx=>⟨Nat.lt_of_lt_of_le (r x hx).1 h.n,by rw[h.μ _ (r x hx).1];exact(r x hx).2⟩
def lkH:List Hs->Nat->Option Hs
 | [],_=>none
 |h::l,w=>if h.w=w then some h else lkH l w
theorem Zy{w:Nat}{h:Hs}:∀{l:List Hs},lkH l w=some h->h∈l/\h.w=w
 | [],e=>by simp [lkH]at e
 |x::l,e=>by
  unfold lkH at e;by_cases hx:x.w=w
  .rw[if_pos hx]at e;cases e;exact⟨List.mem_cons_self,hx⟩
  .rw[if_neg hx]at e;exact⟨List.mem_cons_of_mem _ (Zy e).1,(Zy e).2⟩
def Lt(i:Nat):List Nat->Bool
 | []=>false
 |j::l=>Nat.beq i j ||Lt i l
theorem Le.pt{g g':B3}(h:Le g g'){l:List Nat}{f:Fr}(p:∀t,Lt t l=true->f t=g.φ t):∀t,Lt t l=true->f t=g'.φ t:=λt ht=>by rw[h.φ];exact p t ht
end
end
section
section
variable {Y:Sys}
structure RG(g0:B3)(T:Bh)(c:Cf Y)(f:Fr)(g:B3)(AH A:Bh):Prop where
 n:g.n=c.nx
 le:Ext g0.I g0.w g.I g.w
 st:St g.I g.w (AH++(A++T))
 hr:HR g c.H c.sg AH c.op
 sg:Fv g c.sg A
 hs:HsR g c.hs
 pt:∀t,Lt t c.pt=true->f t=g.φ t
 fr:∀i a,Hu c.fr i=some a->AR g a (f i)
def Cf.set(c:Cf Y)(d:Nat)(a:AV Y):Cf Y:={c with fr:=(d,a)::c.fr}
variable {g0 g:B3} {T AH A:Bh} {c:Cf Y} {f:Fr} {a:AV Y} {v:Value}
theorem RG.set{N d:Nat}(h:RG g0 T c f g AH A)(hd:(Nat.blt d N&&!Lt d c.pt)=true)(ha:AR g a v):RG g0 T (c.set d a) (DO N f d v) g AH A where
 n:=h.n
 le:=h.le
 st:=h.st
 hr:=h.hr
 sg:=h.sg
 hs:=h.hs
 pt t ht:=by
  simp only[Bool.and_eq_true,Bool.not_eq_true']at hd;have:t≠d:=λe=>by subst e;have ht':Lt t c.pt=true:=ht;rw[ht']at hd;exact absurd hd.2 (by decide)
  rw[show DO N f d v t=f t from if_neg this];exact h.pt t ht
 fr i b hb:=by
  simp only[Bool.and_eq_true,Nat.blt_eq]at hd;have hd':d<N:=hd.1;unfold Cf.set Hu at hb;by_cases hi:d=i
  .subst hi;simp at hb;subst hb;simpa [DO,hd'] using ha
  .rw[if_neg hi]at hb;have:DO N f d v i=f i:=if_neg (Ne.symm hi);rw[this];exact h.fr i b hb
theorem RG.cons(h:RG g0 T c f g AH A){d:Nat}(ha:AR g a (f d)):RG g0 T (c.set d a) f g AH A where
 n:=h.n
 le:=h.le
 st:=h.st
 hr:=h.hr
 sg:=h.sg
 hs:=h.hs
 pt:=h.pt
 fr i b hb:=by
  unfold Cf.set Hu at hb;by_cases hi:d=i
  .subst hi;simp at hb;subst hb;exact ha
  .rw[if_neg hi]at hb;exact h.fr i b hb
def B3.new(g:B3)(w:World)(v:Value):B3:={g with w:=w,n:=g.n+1,μ:=λj=>if j=g.n then v else g.μ j}
variable {w:World}
theorem Le.new(h:Ext g.I g.w g.I w):Le g (g.new w v):=⟨h,Nat.le_succ _,λi hi=>if_neg (Nat.ne_of_lt hi),rfl⟩
theorem B3.B7(g:B3)(w:World)(v:Value):(g.new w v).μ g.n=v:=if_pos rfl
theorem FH{B C:Bh}(h:A.Perm (B++C))(AH:Bh):(AH++(A++T)).Perm (B++(AH++(C++T))):=by refine((h.append_right T).append_left AH).trans ?_;rw[List.append_assoc,<-List.append_assoc AH,<-List.append_assoc B];exact List.perm_append_comm.append_right _
theorem RG.new(h:RG g0 T c f g AH A){w':World}{s:C6 Y}{A1:Bh}(he:Ext g.I g.w g.I w')(hs:SR (g.new w' v) g.n s A1)(hst:St g.I w' (A1++(AH++(A++T)))):RG g0 T {c with sg:=(c.nx,s)::c.sg,nx:=c.nx+1} f (g.new w' v) AH (A1++A):=by have hle:=Le.new (v:=v) he;refine⟨by show g.n+1=c.nx+1;rw[h.n],h.le.trans hle.ext,hst.perm (FH (List.Perm.refl _) AH).symm,h.hr.mono hle,⟨A1,A,rfl,by show c.nx<g.n+1;rw[h.n];omega,by rw[<-h.n];exact hs,h.sg.mono hle⟩,h.hs.mono hle,hle.pt h.pt,λj a hj=>(h.fr j a hj).mono hle⟩
def Ey(c:Cf Y):Operand->Option (AV Y)
 | .tmp t=>Hu c.fr t
 | .const v=>some (.val v)
 | .global b=>some (.val (.pointer (some ⟨b,0,none⟩)))
 | .func q=>some (.val (.func (.func q) #[] #[]))
theorem RG.ev(h:RG g0 T c f g AH A){x:Operand}(ha:Ey c x=some a):AR g a (ev f x):=by
 cases x with
 |tmp t=>exact h.fr t a ha
 |const v|global b|func q=>cases ha;exact rfl
def kno(c:Cf Y)(z:Operand)(b:Bool):Cf Y:=match z with
 | .tmp t=>c.set t (.val (.bool b))
 |_=>c
theorem Z1(h:RG g0 T c f g AH A){z:Operand}{b:Bool}(hz:ev f z=.bool b):RG g0 T (kno c z b) f g AH A:=by
 unfold kno;split
 .exact h.cons (a:=.val (.bool b)) hz
 .exact h
def asInt:AV Y->Option (IntKind×Int)
 | .dat (.int k) n=>some (k,n)
 | .nat j=>some (.i64,(j:Int))
 | .val (.int k n)=>some (k,n)
 |_=>none
theorem FN{p:IntKind×Int}(h:asInt a=some p)(ha:AR g a v):v=.int p.1 p.2:=by
 unfold asInt at h;split at h
 .cases h;exact(AX.1 ha).1
 .cases h;exact ha.1
 .cases h;exact ha
 .cases h
def Awg:AV Y->Prop
 | .dat (.int k) n=>Ag k n
 | .nat j=>j<=9223372036854775807
 |_=>True
theorem Aq6(ha:AR g a v):Awg a:=by
 unfold Awg;split
 .exact(AX.1 ha).2
 .exact ha.2
 .trivial
inductive BV where
 |kn (b:Bool)
 |pr (p:Prop) (d:Decidable p)
def BV.val:BV->Bool
 | .kn b=>b
 | .pr p d=>@decide p d
def asB:AV Y->Option BV
 | .dat .bool b=>some (.pr (b=true) inferInstance)
 | .prp p d=>some (.pr p d)
 | .val (.bool b)=>some (.kn b)
 |_=>none
theorem Nx{p:BV}(h:asB a=some p)(ha:AR g a v):v=.bool p.val:=by
 unfold asB at h;split at h
 .cases h;rename_i b;have:=GO.1 ha;rw[this];cases b<;>rfl
 .cases h;exact ha
 .cases h;exact ha
 .cases h
def Aq4:Option (AV Y)->Bool
 |some (.val (.bool _))=>false
 |some (.val _)=>true
 |_=>false
theorem Ags{a:Option (AV Y)}(h:Aq4 a=true)(ha:∀b,a=some b->AR g b v):∀b,v≠.bool b:=by
 intro b e;unfold Aq4 at h;split at h
 .cases h
 .rename_i u hu;have:v=u:=ha _ rfl;rw[this]at e;exact hu b (by rw[e])
 .cases h
def ZL:(t:Ty)->Value->Option (den Y.D t)
 | .int k,.int j n=>if j=k/\k.min<=n/\n<=k.max then some n else none
 | .bool,.bool b=>some b
 | .str,.string s=>if s.size<=9223372036854775807 then some s else none
 |.ptr,.pointer none|.mref,.map none=>some none
 | .sl _,.slice none 0 0=>some []
 |_,_=>none
variable {I:BY}
theorem Yu:∀{t:Ty}{v:Value}{x:den Y.D t},ZL t v=some x->rp Y.toUS t I w v x:=by
 intro t v x h;unfold ZL at h;split at h
 .split at h
  .rename_i h1;cases h;exact AX.2 ⟨by rw[h1.1],h1.2⟩
  .cases h
 .cases h;exact GO.2 rfl
 .split at h
  .rename_i h1;cases h;exact LU.2 ⟨rfl,h1⟩
  .cases h
 .cases h;exact KN.2 rfl
 .cases h;exact Ky.2 rfl
 .cases h;exact R8.2 ⟨none,0,rfl,Nat.le_refl _,Nat.zero_le _,.inl rfl⟩
 .cases h
def K8:List Ty->List Value->Option (List (Lf Y.D))
 | [],[]=>some []
 |t::ts,v::vs=>match ZL t v,K8 ts vs with
  |some x,some l=>some (⟨t,x⟩::l)
  |_,_=>none
 |_,_=>none
theorem Lk{I:BY}{w:World}:∀{ts:List Ty}{vs:List Value}{l:List (Lf Y.D)},K8 ts vs=some l->F2 (λc(l:Lf Y.D)=>rp Y.toUS l.t I w c l.x) vs l
 | [],[],l,h=>by cases h;exact .nil
 |t::ts,v::vs,l,h=>by
  unfold K8 at h;split at h
  .rename_i x l' h1 h2;cases h;exact .cons (Yu h1) (Lk h2)
  .cases h
 |[],_::_,_,h|_::_,[],_,h=>by simp [K8]at h
def T5:(t:Ty)->Value->Option (den Y.D t)
 | .u n,.agg cs=>(K8 (Y.sig n) cs.toList).bind (Y.Ah5 n)
 |t,v=>ZL t v
variable {t:Ty}
theorem Pz{x:den Y.D t}(h:T5 t v=some x):rp Y.toUS t I w v x:=by
 unfold T5 at h;split at h
 .rename_i n cs;cases h1:K8 (Y:=Y) (Y.sig n) cs.toList with
  |none=>rw[h1]at h;cases h
  |some l=>
   rw[h1]at h;have h2:=Y.Rv n l x h;exact Hq.2 ⟨cs.toList,rfl,by rw[h2];exact Lk h1⟩
 .exact Yu h
def U0(t:Ty):AV Y->Option (den Y.D t)
 | .dat t' x=>match Ty.dec t' t with
  | .isTrue h=>some (h▸x)
  | .isFalse _=>none
 | .nat j=>match t with
  | .int .i64=>some (j:Int)
  |_=>none
 | .prp p d=>match t with
  | .bool=>some (@decide p d)
  |_=>none
 | .ptr _ p=>match t with
  | .ptr=>some p
  |_=>none
 | .hp _ b o=>match t,o with
  | .ptr,0=>some (some b)
  |_,_=>none
 | .val v=>T5 t v
 |_=>none
theorem Dk{x:den Y.D t}(h:U0 t a=some x)(ha:AR g a v):rp Y.toUS t g.I g.w v x:=by
 unfold U0 at h;split at h
 .split at h
  .rename_i e _;subst e;cases h;exact ha
  .cases h
 .split at h
  .cases h;refine AX.2 ⟨ha.1,?_⟩;have h1:IntKind.i64.min=-9223372036854775808:=by decide
   have h2:IntKind.i64.max=9223372036854775807:=by decide
   have:=ha.2;unfold Ag;omega
  .cases h
 .split at h
  .cases h;exact GO.2 ha
  .cases h
 .split at h
  .cases h;exact KN.2 ha.2.2
  .cases h
 .split at h
  .cases h;exact KN.2 ha.2.2
  .cases h
 .obtain rfl:v=_:=ha;exact Pz h
 .cases h
def Acf:(t:Ty)->den Y.D t->List (Lf Y.D)
 | .u n,x=>Y.flat n x
 | .int k,x=>[⟨.int k,x⟩]
 | .bool,x=>[⟨.bool,x⟩]
 | .str,x=>[⟨.str,x⟩]
 | .ptr,x=>[⟨.ptr,x⟩]
 | .mref,x=>[⟨.mref,x⟩]
 | .sl e,x=>[⟨.sl e,x⟩]
def XE:(t:Ty)->List (Lf Y.D)->Option (den Y.D t)
 | .u n,l=>Y.Ah5 n l
 |t,[⟨t',x⟩]=>match Ty.dec t' t with
  | .isTrue h=>some (h▸x)
  | .isFalse _=>none
 |_,_=>none
theorem Ace{x:den Y.D t}(h:rp Y.toUS t I w v x):F2 (λc(l:Lf Y.D)=>rp Y.toUS l.t I w c l.x) v.cells.toList (Acf t x):=by
 cases t with
 |u n=>obtain⟨cs,rfl,h2⟩:=Hq.1 h;exact h2
 |_=>rw[(J1 rfl h).1];exact .cons h .nil
theorem Aah{cs:List Value}{l:List (Lf Y.D)}{x:den Y.D t}(h:XE t l=some x)(hl:F2 (λc(l:Lf Y.D)=>rp Y.toUS l.t I w c l.x) cs l):∃v,v.cells=⟨cs⟩/\rp Y.toUS t I w v x/\(if isU t then v=.agg ⟨cs⟩ else ∃u,v=u/\cs=[u]):=by
 unfold XE at h;split at h
 .rename_i n;have h2:=Y.Rv n _ x h;exact⟨.agg ⟨cs⟩,rfl,Hq.2 ⟨cs,rfl,by rw[h2];exact hl⟩,rfl⟩
 .rename_i t1 t' y hne;split at h
  .rename_i e _;subst e;cases h;cases hl with
   |cons h1 h2=>
    cases h2;rename_i c;have hlf:t'.leaf=true:=by cases t'<;>first|rfl|exact absurd rfl (hne _)
    refine⟨c,(J1 hlf h1).1,h1,?_⟩;cases t'<;>first|exact⟨c,rfl,rfl⟩|exact absurd rfl (hne _)
  .cases h
 .cases h
end
end
section
def Fu(b:Bool)(p:Prop):Prop:=match b with
 |true=>p
 |false=>False
theorem AM{b:Bool}{p:Prop}(h:Fu b p):b=true/\p:=by
 cases b with
 |true=>exact⟨rfl,h⟩
 |false=>exact h.elim
structure Sx(g:B3)(w':World):Prop where
 ext:Ext g.I g.w g.I w'
theorem Sx.BA{g:B3}{w':World}(h:Sx g w'):∀b,g.I b->w'.heap[b]?=g.w.heap[b]?:=h.ext.BA
theorem Sx.refl(g:B3):Sx g g.w:=⟨Ext.refl _ _⟩
theorem Sx.points{g:B3}{w':World}(h:Sx g w'){a:Addr}{v:Value}(ha:g.I a.block)(hp:Dl g.w a v):Dl w' a v:=⟨hp.1,λj hj=>(cell?_of_heap (a:=⟨a.block,a.off+j,none⟩) (h.BA _ ha)).trans (hp.2 j hj)⟩
def KC(P:Program)(f:Fr)(op:Op)(ty:TypeId)(v:Value)(w:World):Prop:=∀dst pos af gd,(execOp (ev f) ⟨dst,op,ty,pos,af,gd⟩).run P w=.ok (.value v) w
theorem AD{P:Program}{f:Fr}{op:Op}{ty:TypeId}{v:Value}{w:World}(h:∀(pos:String)(af:Array Edge)(K:Fr->World->Prop),K (put 1 f (some 0) v) w->WL P 1 #[] (λ_ _=>False) true K [⟨some 0,op,ty,pos,af,none⟩] f w):KC P f op ty v w:=by
 intro dst pos af gd;have h1:=h pos af (λf' w'=>f' 0=v/\w'=w) ⟨rfl,rfl⟩;simp only[WL,Region.wanted,if_true]at h1;obtain⟨v',w2,hr,e1,e2⟩:=ZR _ h1;have hv:v'=v:=by simpa [put,DO] using e1
 rw[hv,e2]at hr;exact hr
section
variable {Y:Sys}
def Ay0(P:Program)(t:TypeId)(i:Nat):Option Nat:=match P.underlying t with
 |some (.struct fs)=>(fs[i]?).map (·.offset)
 |_=>none
def slI(P:Program)(t:TypeId):Option (TypeId×Nat):=match P.underlying t with
 |some (.slice e)=>(P.info? e).map λi=>(e,i.bytes)
 |_=>none
def ixA(a:AV Y)(len:Nat)(k:(j:Nat)->j<len->Prop):Prop:=match a with
 | .nat j=>∃h:j<len,k j h
 |a=>match asInt a with
  |some (_,n)=>(Awg a->0<=n)/\∃h:n.toNat<len,k n.toNat h
  |none=>False
variable {g:B3} {a:AV Y}
theorem VI{v:Value}{len:Nat}{k:(j:Nat)->j<len->Prop}(ha:AR g a v)(h:ixA a len k):∃kd j,v=.int kd (j:Nat)/\∃hj:j<len,k j hj:=by
 unfold ixA at h;split at h
 .obtain⟨h1,h2⟩:=h;exact⟨_,_,ha.1,h1,h2⟩
 .split at h
  .rename_i kd n hn;obtain⟨h0,h1,h2⟩:=h;have:=FN hn ha;refine⟨kd,n.toNat,?_,h1,h2⟩;rw[this,Int.toNat_of_nonneg (h0 (Aq6 ha))]
  .exact h.elim
def isK:Operand->Bool
 | .const _=>true
 |_=>false
def Ke(x:Operand)(a:AV Y)(p:Prop):Prop:=match isK x with
 |true=>p
 |false=>match a with
  | .dat (.int k) n=>Ag k n->p
  | .nat j=>j<=9223372036854775807->p
  |_=>p
variable {x:Operand}
theorem Fe{v:Value}{p:Prop}(ha:AR g a v)(h:Ke x a p):p:=by
 unfold Ke at h;split at h
 .exact h
 .split at h
  .exact h (AX.1 ha).2
  .exact h ha.2
  .exact h
def Xy:BinOp->Int->Int->(p:Prop)×(Decidable p)
 | .eql,a,b=>⟨a=b,inferInstance⟩
 | .neq,a,b=>⟨¬a=b,inferInstance⟩
 | .lss,a,b=>⟨a<b,inferInstance⟩
 | .leq,a,b=>⟨a<=b,inferInstance⟩
 | .gtr,a,b=>⟨b<a,inferInstance⟩
 |_,a,b=>⟨b<=a,inferInstance⟩
def arI(op:BinOp)(k:IntKind)(a b:Int)(K:Int->Prop):Prop:=match op with
 | .add=>Ag k (a+b)/\K (a+b)
 | .sub=>Ag k (a-b)/\K (a-b)
 | .mul=>Ag k (a*b)/\K (a*b)
 | .quo=>b≠0/\Ag k (a.tdiv b)/\K (a.tdiv b)
 | .rem=>b≠0/\Ag k (a.tmod b)/\K (a.tmod b)
 | .and=>K (C5 .and k a b)
 | .or=>K (C5 .or k a b)
 | .xor=>K (C5 .xor k a b)
 |_=>False
def arW(op:BinOp)(k:IntKind)(a b:Int)(K:Int->Prop):Prop:=match op with
 | .add=>K (k.wrap (a+b))
 | .sub=>K (k.wrap (a-b))
 | .mul=>K (k.wrap (a*b))
 | .quo=>b≠0/\Ag k (a.tdiv b)/\K (a.tdiv b)
 | .rem=>b≠0/\Ag k (a.tmod b)/\K (a.tmod b)
 | .and=>K (C5 .and k a b)
 | .or=>K (C5 .or k a b)
 | .xor=>K (C5 .xor k a b)
 |_=>False
def A25:IntKind->Bool
 | .i64=>true
 |_=>false
variable {P:Program} {f:Fr} {op:BinOp} {kd:IntKind} {b:Int} {K:Int->Prop} {y:Operand} {t u ty:TypeId}
theorem Axs{a:Int}(h:arI op kd a b K)(hx:ev f x=.int kd a)(hy:ev f y=.int kd b):∃n,K n/\Ag kd n/\∀w,KC P f (.binOp op t x y u) ty (.int kd n) w:=by
 unfold arI at h;split at h
 .exact⟨_,h.2,h.1,λw=>AD λpos af K' hk=>Agl hx hy (by rw[E3 h.1];exact hk)⟩
 .exact⟨_,h.2,h.1,λw=>AD λpos af K' hk=>As1 hx hy (by rw[E3 h.1];exact hk)⟩
 .exact⟨_,h.2,h.1,λw=>AD λpos af K' hk=>As4 hx hy (by rw[E3 h.1];exact hk)⟩
 .exact⟨_,h.2.2,h.2.1,λw=>AD λpos af K' hk=>Ama hx hy h.1 h.2.1 hk⟩
 .exact⟨_,h.2.2,h.2.1,λw=>AD λpos af K' hk=>Al9 hx hy h.1 h.2.1 hk⟩
 .exact⟨_,h,Pt,λw=>AD λpos af K' hk=>As5 hx hy hk⟩
 .exact⟨_,h,Pt,λw=>AD λpos af K' hk=>Ay3 hx hy hk⟩
 .exact⟨_,h,Pt,λw=>AD λpos af K' hk=>As0 hx hy hk⟩
 .exact h.elim
theorem Aon{a:Int}(h:arW op kd a b K)(hx:ev f x=.int kd a)(hy:ev f y=.int kd b):∃n,K n/\Ag kd n/\∀w,KC P f (.binOp op t x y u) ty (.int kd n) w:=by
 unfold arW at h;split at h
 .exact⟨_,h,IA _ _,λw=>AD λpos af K' hk=>Agl hx hy hk⟩
 .exact⟨_,h,IA _ _,λw=>AD λpos af K' hk=>As1 hx hy hk⟩
 .exact⟨_,h,IA _ _,λw=>AD λpos af K' hk=>As4 hx hy hk⟩
 .exact⟨_,h.2.2,h.2.1,λw=>AD λpos af K' hk=>Ama hx hy h.1 h.2.1 hk⟩
 .exact⟨_,h.2.2,h.2.1,λw=>AD λpos af K' hk=>Al9 hx hy h.1 h.2.1 hk⟩
 .exact⟨_,h,Pt,λw=>AD λpos af K' hk=>As5 hx hy hk⟩
 .exact⟨_,h,Pt,λw=>AD λpos af K' hk=>Ay3 hx hy hk⟩
 .exact⟨_,h,Pt,λw=>AD λpos af K' hk=>As0 hx hy hk⟩
 .exact h.elim
theorem Ahk(ho:OA op=true){a:Int}(hx:ev f x=.int kd a)(hy:ev f y=.int kd b)(w:World):KC P f (.binOp op t x y u) ty (.bool (@decide (Xy op a b).1 (Xy op a b).2)) w:=AD λpos af K' hk=>by
 cases op<;>first|(simp [OA]at ho;done)|skip
 .exact Ave hx hy hk
 .refine Amb hx hy ?_;have:(!decide (a=b))=@decide (Xy .neq a b).1 (Xy .neq a b).2:=by simp only[Xy];by_cases h:a=b<;>simp [h]
  rw[this];exact hk
 .exact Amc hx hy hk
 .exact Avb hx hy hk
 .exact Avc hx hy hk
 .exact Avd hx hy hk
def shI(op:BinOp)(k:IntKind)(a b:Int)(K:Int->Prop):Prop:=match op with
 | .shl=>0<=b/\K (k.wrap (a*2^(min b.toNat k.bits)))
 | .shr=>0<=b/\K (a.fdiv (2^(min b.toNat k.bits)))
 |_=>False
def A24:BinOp->Bool
 | .shl | .shr=>true
 |_=>false
theorem Aui{kd2:IntKind}{a:Int}(h:shI op kd a b K)(hx:ev f x=.int kd a)(hy:ev f y=.int kd2 b)(ha:op=.shr->Ag kd a):∃n,K n/\Ag kd n/\∀w,KC P f (.binOp op t x y u) ty (.int kd n) w:=by
 unfold shI at h;split at h
 .exact⟨_,h.2,IA _ _,λw=>AD λpos af K' hk=>Ay2 hx hy h.1 hk⟩
 .exact⟨_,h.2,Aq7 (ha rfl) h.1,λw=>AD λpos af K' hk=>Ay1 hx hy h.1 hk⟩
 .exact h.elim
def Gn(P:Program)(t:TypeId)(q:TypeDesc->Bool):Bool:=match P.underlying t with
 |some d=>q d
 |none=>false
def Ahf:TypeDesc->Bool
 | .bool=>true
 |_=>false
def Arr:TypeDesc->Bool
 | .pointer _=>true
 |_=>false
def Arq:TypeDesc->Bool
 | .string=>true
 |_=>false
def An3(k:IntKind):TypeDesc->Bool
 | .int j=>j==k
 |_=>false
theorem XF(h:Gn P t Ahf=true):P.underlying t=some .bool:=by
 unfold Gn at h;split at h
 .rename_i d hd;cases d<;>simp [Ahf]at h;exact hd
 .cases h
theorem Aaj(h:Gn P t Arq=true):P.underlying t=some .string:=by
 unfold Gn at h;split at h
 .rename_i d hd;cases d<;>simp [Arq]at h;exact hd
 .cases h
theorem Aak(h:Gn P t Arr=true):∃e,P.underlying t=some (.pointer e):=by
 unfold Gn at h;split at h
 .rename_i d hd;cases d<;>simp [Arr]at h;exact⟨_,hd⟩
 .cases h
theorem UR{k:IntKind}(h:Gn P t (An3 k)=true):P.underlying t=some (.int k):=by
 unfold Gn at h;split at h
 .rename_i d hd;cases d<;>simp [An3]at h;subst h;exact hd
 .cases h
def asS(a:AV Y):Option ByteArray:=U0 .str a
def asP(a:AV Y):Option (Option Nat):=U0 .ptr a
def dFn:TypeDesc->Bool
 | .func _ _ _=>true
 |_=>false
theorem Afx(h:Gn P t dFn=true):∃a b c,P.underlying t=some (.func a b c):=by
 unfold Gn at h;split at h
 .rename_i d hd;cases d<;>simp [dFn]at h;exact⟨_,_,_,hd⟩
 .cases h
theorem Oy{w:World}{g:Fn}{p q:Array Value}(n:Nat)(ht:∃a b c,P.underlying t=some (.func a b c)):(Op.equalIn (n+1) t (.func g p q) .nilFunc).run P w=.ok false w:=by obtain⟨a1,a2,a3,ht⟩:=ht;simp [Op.equalIn,run_underlying ht]
theorem ZY{g:Fn}{p q:Array Value}{b:Bool}(ht:∃a b c,P.underlying t=some (.func a b c))(hx:ev f x=.func g p q)(hy:ev f y=.nilFunc)(ho:(op=.eql/\b=false)∨(op=.neq/\b=true))(w:World):KC P f (.binOp op t x y u) ty (.bool b) w:=by
 intro dst pos af gd;have hg:∀op:BinOp,(eqGuard op t x y (.func g p q) .nilFunc).run P w=.ok () w:=λop=>by simp only[eqGuard];cases op<;>simp
 rcases ho with ⟨rfl,rfl⟩|⟨rfl,rfl⟩
 .simp only[execOp,hx,hy,Sem.run_bind,hg,Result.andThen_ok,binOp,Op.equal,Op.maxDepth,Oy 9999 ht,Sem.run_pure]
 .simp only[execOp,hx,hy,Sem.run_bind,hg,Result.andThen_ok,binOp,Op.equal,Op.maxDepth,Oy 9999 ht,Sem.run_pure,Bool.not_false]
def eqX(P:Program)(op:BinOp)(t:TypeId)(a b:AV Y)(k:AV Y->Prop):Prop:=match asB a,asB b with
 |some p,some q=>match op with
  | .eql=>Fu (Gn P t Ahf) (k (.dat .bool (p.val==q.val)))
  | .neq=>Fu (Gn P t Ahf) (k (.dat .bool (!(p.val==q.val))))
  |_=>False
 |_,_=>match asS a,asS b with
  |some s,some r=>match op with
   | .eql=>k (.prp (s=r) inferInstance)
   | .neq=>k (.prp (¬s=r) inferInstance)
   |_=>False
  |_,_=>match asP a,b with
   |some p,.val (.pointer none)=>match op with
    | .eql=>Fu (Gn P t Arr) (k (.prp (p=none) inferInstance))
    | .neq=>Fu (Gn P t Arr) (k (.prp (¬p=none) inferInstance))
    |_=>False
   |_,_=>match a,b with
    | .fn _ _ _,.val .nilFunc=>match op with
     | .eql=>Fu (Gn P t dFn) (k (.val (.bool false)))
     | .neq=>Fu (Gn P t dFn) (k (.val (.bool true)))
     |_=>False
    |_,_=>False
theorem Awv{b:AV Y}{k:AV Y->Prop}(h:eqX P op t a b k)(ha:AR g a (ev f x))(hb:AR g b (ev f y)):∃v c,k c/\AR g c v/\∀w,KC P f (.binOp op t x y u) ty v w:=by
 unfold eqX at h;split at h
 .rename_i p q hp hq;have hx:=Nx hp ha;have hy:=Nx hq hb;split at h
  .obtain⟨ht,h⟩:=AM h;exact⟨_,_,h,GO.2 rfl,λw=>AD λpos af K' hk=>Azf hx hy (XF ht) hk⟩
  .obtain⟨ht,h⟩:=AM h;exact⟨_,_,h,GO.2 rfl,λw=>AD λpos af K' hk=>Ay7 hx hy (XF ht) hk⟩
  .exact h.elim
 .split at h
  .rename_i s r hs hr;have hx:=(LU.1 (Dk hs ha)).1;have hy:=(LU.1 (Dk hr hb)).1;split at h
   .exact⟨_,_,h,rfl,λw=>AD λpos af K' hk=>Azc hx hy hk⟩
   .exact⟨_,_,h,rfl,λw=>AD λpos af K' hk=>Ay4 hx hy hk⟩
   .exact h.elim
  .split at h
   .rename_i p hp _ _;have hx:rep (α:=Option Nat) g.I g.w (ev f x) p:=KN.1 (Dk hp ha);split at h
    .obtain⟨ht,h⟩:=AM h;exact⟨_,_,h,rfl,λw=>AD λpos af K' hk=>Azd (I:=g.I) (Aak ht) hx rfl hb hk⟩
    .obtain⟨ht,h⟩:=AM h;exact⟨_,_,h,rfl,λw=>AD λpos af K' hk=>Ay6 (I:=g.I) (Aak ht) hx rfl hb hk⟩
    .exact h.elim
   .split at h
    .obtain⟨⟨q,first,cap,hx⟩,_⟩:=ha;have hy:ev f y=.nilFunc:=hb;split at h
     .obtain⟨ht,h⟩:=AM h;exact⟨_,_,h,rfl,λw=>ZY (Afx ht) hx hy (.inl ⟨rfl,rfl⟩) w⟩
     .obtain⟨ht,h⟩:=AM h;exact⟨_,_,h,rfl,λw=>ZY (Afx ht) hx hy (.inr ⟨rfl,rfl⟩) w⟩
     .exact h.elim
    .exact h.elim
def eqU(op:BinOp)(t:TypeId)(a b:AV Y)(k:AV Y->Prop):Prop:=match a with
 | .dat (.u n) x=>match U0 (.u n) b with
  |some y=>Fu (Y.eqs t (.u n)) (match op with
   | .eql=>k (.prp (x=y) (Ew Y.toUS Y.deq (.u n) x y))
   | .neq=>k (.prp (¬x=y) (@instDecidableNot _ (Ew Y.toUS Y.deq (.u n) x y)))
   |_=>False)
  |none=>False
 |_=>False
theorem Aww{b:AV Y}{k:AV Y->Prop}(h:eqU op t a b k)(ha:AR g a (ev f x))(hb:AR g b (ev f y)):∃v c,k c/\AR g c v/\∀w,KC Y.P f (.binOp op t x y u) ty v w:=by
 unfold eqU at h;split at h
 .rename_i n d;split at h
  .rename_i e he;obtain⟨hq,h⟩:=AM h;obtain⟨h1,h2⟩:=Y.Ati t _ hq;have hv:rp Y.toUS (.u n) g.I g.w (ev f x) d:=ha;have hu:=Dk he hb;obtain⟨cs,hcs,_⟩:=Hq.1 hv;obtain⟨ds,hds,_⟩:=Hq.1 hu;have hg:∀(op:BinOp)(w:World),(eqGuard op t x y (ev f x) (ev f y)).run Y.P w=.ok () w:=λop w=>by rw[hcs,hds];simp only[eqGuard];cases op<;>simp [Sem.run_bind,run_program,h1]
   have hE:=h2 _ _ _ _ _ _ hv hu;rw[hcs,hds]at hE hg;split at h
   .exact⟨_,_,h,rfl,λw dst pos af gd=>by simp only[execOp,hcs,hds,Sem.run_bind,hg,Result.andThen_ok,binOp,hE w,Sem.run_pure]⟩
   .exact⟨_,_,h,rfl,λw dst pos af gd=>by
     have:(!(@decide (d=e) (Ew Y.toUS Y.deq (.u n) d e)))=@decide (¬d=e) (@instDecidableNot _ (Ew Y.toUS Y.deq (.u n) d e)):=by
      by_cases hde:d=e
      .rw[@decide_eq_true _ (Ew Y.toUS Y.deq (.u n) d e) hde,@decide_eq_false _ (@instDecidableNot _ (Ew Y.toUS Y.deq (.u n) d e)) λhn=>hn hde];rfl
      .rw[@decide_eq_false _ (Ew Y.toUS Y.deq (.u n) d e) hde,@decide_eq_true _ (@instDecidableNot _ (Ew Y.toUS Y.deq (.u n) d e)) hde];rfl
     simp only[execOp,hcs,hds,Sem.run_bind,hg,Result.andThen_ok,binOp,hE w,Sem.run_pure,this]⟩
   .exact h.elim
  .exact h.elim
 .exact h.elim
end
end
end Go.Y
