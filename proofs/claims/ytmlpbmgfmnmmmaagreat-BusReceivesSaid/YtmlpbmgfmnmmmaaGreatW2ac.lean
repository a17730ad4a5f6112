/-
  Parts of the proof. No condition.
-/
import Derived.Test.YtmlpbmgfmnmmmaaGreatW2ab
import Derived.Deep.LoopGhost
import Derived.Scope
set_option linter.unusedVariables false
set_option linter.unusedSimpArgs false
set_option maxRecDepth 8000
set_option maxHeartbeats 8000000
namespace Go.Proofs.YtmlpbmgfmnmmmaaGreat.V
section
variable {P:Program}{ops:Array Oper}{Q:Exit→Act→World→Prop}{S:World→Prop}{n:Nat}
variable {i:Nat}{p:bZ}{e:Env}{w:World}{k:Kd}{dst:Option Tmp}{ty:TypeId}{pos:String}{an:Array Edge}{g:Option (Nat×Bool)}
theorem K5 [Fr]{a:Act}(ha:fA a e n):∀(l:List (Nat×Operand)) (us:List (Nat×Value)),l.mapM (fun x=>(ev e x.2).map fun v=>(x.1,v))=some us→l.map (fun(i,x)=>(i,a.eval x))=us:=by
 intro l
 induction l with
 |nil=>intro us h;simp at h;simp[h]
 |cons x r ih=>
  intro us h;rw[List.mapM_cons] at h;cases hv:ev e x.2 with
  |none=>simp[hv] at h
  |some v=>
   cases hr:r.mapM (fun x=>(ev e x.2).map fun v=>(x.1,v)) with
   |none=>simp[hv,hr] at h
   |some vr=>
    simp[hv,hr] at h;subst h;simp[bC ha hv,←ih vr hr]
def wV (P:Program)(t:TypeId)(len:Nat)(pl:List (Nat×List Value)):Option (List Value):=
 match P.underlying t with
 |some (.slice el)=>match P.info? el with
  |some i=>match i.zero with
   |some z=>match Nat.blt 0 (len*i.size),Nat.ble (len*i.size) 16777216 with
    |true,true=>sJ (fun j=>some (j*i.size,i.size)) (((Array.range (len*i.size)).map (z.cells[· % z.cells.size]!)).toList) pl
    |_,_=>none
   |none=>none
  |none=>none
 |_=>none
theorem GO.buildSlice [Fr]{t:TypeId}{len:Nat}{parts:Array (Nat×Operand)}{vs:List (Nat×Value)}{pl:List (Nat×List Value)}{out:List Value}{el:TypeId}{sz aS:Nat}[hf:cj P t el sz aS]
  (hb:wV P t len pl=some out) (jR:len*aS≤140737488355328∧len≤maxLen) (hw:aH ops e ⟨dst, .buildSlice t len parts,ty,pos,an,g⟩=some true)
  (hx:parts.toList.mapM (fun x=>(ev e x.2).map fun v=>(x.1,v))=some vs) (hp:vs.map (fun x=>(x.1,x.2.cells.toList))=pl) (hlen:out.length=len*sz) (hd:fits n dst=true)
  (h:∀b w',b=w.heap.size→aG w' el sz (some b) (some ⟨b,0,none⟩) len len out→Ext w w'→(gG ops i=false→S w→S w')∧GX P ops Q S n p (e.put dst (.slice (some ⟨b,0,none⟩) len len)) w'):GO P ops Q S n .ax i ⟨dst, .buildSlice t len parts,ty,pos,an,g⟩ p e w:=by
 refine GO.run (R:=fun u w'=>u = .slice (some ⟨w.heap.size,0,none⟩) len len∧aG w' el sz (some w.heap.size) (some ⟨w.heap.size,0,none⟩) len len out∧Ext w w') hw hd (fun a ha=>?_) (by rintro _ w' ⟨rfl,h1,h2⟩;exact h _ w' rfl h1 h2);have Ab:(parts.map fun(i,x)=>(i,a.eval x)).toList=vs:=by simpa using K5 ha parts.toList vs hx
 obtain⟨hu,ii,z,hi,hz,hs,_,iE⟩:=hf.facts;unfold wV at hb;simp only[hu,hi,hz] at hb;split at hb
 ·rename_i h1 h2
  have kF:¬len*ii.size=0:=by have:=h1;simp[Nat.blt] at this;omega
  have hle:¬len*ii.size > 2^24:=by have:=vi h2;omega
  have Ej:=fill_eq _ vs pl _ out hp hb;subst hs;refine⟨_,_,w.alloc (.cells out.toArray el),?_, .inl rfl,rfl,?_,Ext.alloc _ _⟩
  ·simp only[execOp,Sem.run_bind,Instr.buildSlice,run_underlying hu,Result.andThen_ok,Go.sizeOf,typeInfo,run_program,hi,Sem.run_pure,if_neg hle,if_neg kF,zeroValue,hz,Ab];rw[Ej];simp[newRow]
  ·refine aG.new ⟨hlen, .inr ⟨w.heap.size,len,out.toArray,rfl,bh _,heap_alloc_new w _,bj _,jR.2,by simpa using hlen,?_⟩⟩;rw[←hlen];simp
 ·cases hb
theorem GO.makeSlice [Fr]{t:TypeId}{x y:Operand}{k1 k2:IntKind}{l c:Int}{el:TypeId}{sz aS:Nat}[hf:cj P t el sz aS]{zl:List Value}(oR:xr P el=some zl)
  (hw:aH ops e ⟨dst, .makeSlice t x y,ty,pos,an,g⟩=some true) (hx:ev e x=some (.int k1 l)) (hy:ev e y=some (.int k2 c)) (h0:0≤l) (BO:l≤c) (hb:(aS:Int)*c≤281474976710656) (zz:c≤4611686018427387904) (hd:fits n dst=true)
  (h:∀b w',b=w.heap.size→aG w' el sz (some b) (some ⟨b,0,none⟩) l.toNat c.toNat ((List.replicate l.toNat zl).flatten)→Ext w w'→(gG ops i=false→S w→S w')∧GX P ops Q S n p (e.put dst (.slice (some ⟨b,0,none⟩) l.toNat c.toNat)) w'):GO P ops Q S n .ax i ⟨dst, .makeSlice t x y,ty,pos,an,g⟩ p e w:=by
 refine GO.run (R:=fun u w'=>u = .slice (some ⟨w.heap.size,0,none⟩) l.toNat c.toNat∧aG w' el sz (some w.heap.size) (some ⟨w.heap.size,0,none⟩) l.toNat c.toNat ((List.replicate l.toNat zl).flatten)∧Ext w w') hw hd (fun a ha=>?_) (by rintro _ w' ⟨rfl,h1,h2⟩;exact h _ w' rfl h1 h2);obtain⟨hu,ii,z,hi,hz,hs,mj,iE⟩:=hf.facts;subst hs;subst mj;have oS:z.cells.toList=zl:=by
  unfold xr at oR;simp[hi,hz] at oR;simpa using oR
 have hr:=run_make (P:=P) w t el ii z hu hi hz k1 k2 l c h0 BO hb ah;refine⟨_,_,w.alloc (.cells (madeCells z.cells (c.toNat*ii.size)) el),by simp[execOp,bC ha hx,bC ha hy,hr], .inl rfl,rfl,?_,Ext.alloc _ _⟩;have Cg:zl.length=ii.size:=by rw[←oS];simpa using iE
 have kX:∀m,((List.replicate m zl).flatten).length=m*ii.size:=by
  intro m;simp[Cg]
 refine aG.new ⟨kX _, .inr ⟨w.heap.size,c.toNat,_,rfl,bh _,heap_alloc_new w _,by omega,by unfold maxLen;omega,by simp[size_madeCells],?_⟩⟩;have key:∀m,(madeCells z.cells (m*ii.size)).toList=(List.replicate m zl).flatten:=by
  intro m;apply pb;intro j
  by_cases hj:j<m*ii.size
  ·have kF:0<ii.size:=by
    rcases Nat.eq_zero_or_pos ii.size with h|h
    ·simp[h] at hj
    ·exact h
   have wb:j % ii.size<zl.length:=by rw[Cg];exact fm _ kF
   have h1:(madeCells z.cells (m*ii.size)).toList[j]?=some (zl[j % ii.size]):=by
    simp only[madeCells,Array.toList_map,gb,Array.toList_range,List.getElem?_range hj,jr];congr 1;rw[iE];have:j % ii.size<z.cells.size:=by rw[iE];exact fm _ kF
    rw[getElem!_pos z.cells _ this];subst oS;simp
   rw[h1];have hdiv:j / ii.size<m:=by
    rw[Nat.div_lt_iff_lt_mul kF];exact hj
   have hdm:=Nat.div_add_mod j ii.size;have:j=(j / ii.size)*zl.length+j % ii.size:=by rw[Cg,Nat.mul_comm];omega
   have MX:∀(m q r:Nat),q<m→(hr:r<zl.length)→((List.replicate m zl).flatten)[q*zl.length+r]?=some zl[r]:=by
    intro m
    induction m with
    |zero=>intro q r h;omega
    |succ m ih=>
     intro q r hq hr;rw[List.replicate_succ,om];cases q with
     |zero=>rw[vo,dA,gr hr];simp[hr]
     |succ q=>
      rw[ia (by rw[iP];omega)];have:(q+1)*zl.length+r - zl.length=q*zl.length+r:=by rw[iP];omega
      rw[this];exact ih q r ah hr
   have h2:=MX m (j / ii.size) (j % ii.size) hdiv wb;rw[←this] at h2;exact h2.symm
  ·rw[sy (by simp[size_madeCells];omega),sy (by rw[kX];omega)]
 have M7:(List.replicate c.toNat zl)=List.replicate l.toNat zl++List.replicate (c.toNat - l.toNat) zl:=by
  rw[List.replicate_append_replicate];congr 1;omega
 rw[key,M7,A2,←kX l.toNat,vk]
theorem GO.wW [Fr]{k:Kd}(hk:cB k=true){t:TypeId}{x:Operand}{lo hi mx:Option Operand}{a:Option Addr}{len cap l h m:Nat}{el:TypeId}{sz aS:Nat}[hf:cj P t el sz aS]
  (hw:aH ops e ⟨dst, .slice t x lo hi mx,ty,pos,an,g⟩=some true) (hx:ev e x=some (.slice a len cap)) (hd:fits n dst=true)
  (hb:∀w:World,(Instr.sliceBounds true len cap (lo.map fun y=>(ev e y).getD undef) (hi.map fun y=>(ev e y).getD undef) (mx.map fun y=>(ev e y).getD undef)).run P w = .ok (l,h,m) w)
  (vW:(∀y,lo=some y→(ev e y).isSome)∧(∀y,hi=some y→(ev e y).isSome)∧(∀y,mx=some y→(ev e y).isSome))
  (hh:GX P ops Q S n p (e.put dst (.slice (eS a l m sz) (h - l) (m - l))) w):GO P ops Q S n k i ⟨dst, .slice t x lo hi mx,ty,pos,an,g⟩ p e w:=by
 refine GO.val (fN hk) hw hd (fun ac ha w=>?_) hh;have hm:∀(y:Option Operand),(∀z,y=some z→(ev e z).isSome)→y.map ac.eval=y.map fun y=>(ev e y).getD undef:=by
  intro y hy;cases y with
  |none=>rfl
  |some z=>
   obtain⟨v,hv⟩:=C7.1 (hy z rfl);simp[bC ha hv,hv]
 have h1:=run_slice_any (P:=P) (w:=w) t a len cap hf.Pt (lo.map fun y=>(ev e y).getD undef) (hi.map fun y=>(ev e y).getD undef) (mx.map fun y=>(ev e y).getD undef);simp only[hb,Result.andThen_ok,hf.XG] at h1;simp only[execOp,Sem.run_bind,bC ha hx,hm lo vW.1,hm hi vW.2.1,hm mx vW.2.2,run_sliceAt_slice (w:=w) t _ _ _ _ hf.Pt,h1,Result.andThen_ok,Sem.run_pure];rfl
theorem Zw {len cap:Nat}{kl:IntKind}{l:Int}(h0:0≤l)(h1:l≤len)(w:World):(Instr.sliceBounds true len cap (some (.int kl l)) none none).run P w = .ok (l.toNat,len,cap) w:=by
 simp[Instr.sliceBounds,run_sliceBound,h0,h1]
theorem P8 {len cap:Nat}{kh:IntKind}{h:Int}(h0:0≤h)(h1:h≤cap)(w:World):(Instr.sliceBounds true len cap none (some (.int kh h)) none).run P w = .ok (0,h.toNat,cap) w:=by
 simp[Instr.sliceBounds,run_sliceBound,h0,h1]
theorem P9 {len cap:Nat}{kl kh:IntKind}{l h:Int}(h0:0≤l)(h1:l≤h)(h2:h≤cap)(w:World):(Instr.sliceBounds true len cap (some (.int kl l)) (some (.int kh h)) none).run P w = .ok (l.toNat,h.toNat,cap) w:=by
 have e1:((h.toNat:Nat):Int)=h:=Int.toNat_of_nonneg ah;simp[Instr.sliceBounds,run_sliceBound,h0,h1,h2,e1,(by omega:0≤h)]
theorem GO.XL [Fr]{k:Kd}(hk:cB k=true){t:TypeId}[hu:bH P t .string]{x:Operand}{lo hi:Option Operand}{s:ByteArray}{l h:Nat}
  (hw:aH ops e ⟨dst, .slice t x lo hi none,ty,pos,an,g⟩=some true) (hx:ev e x=some (.string s)) (hd:fits n dst=true)
  (hb:∀w:World,(Instr.sliceBounds false s.size s.size (lo.map fun y=>(ev e y).getD undef) (hi.map fun y=>(ev e y).getD undef) none).run P w = .ok (l,h,s.size) w)
  (vW:(∀y,lo=some y→(ev e y).isSome)∧(∀y,hi=some y→(ev e y).isSome))
  (hh:GX P ops Q S n p (e.put dst (.string (s.extract l h))) w):GO P ops Q S n k i ⟨dst, .slice t x lo hi none,ty,pos,an,g⟩ p e w:=by
 refine GO.val (fN hk) hw hd (fun ac ha w=>?_) hh;have hm:∀(y:Option Operand),(∀z,y=some z→(ev e z).isSome)→y.map ac.eval=y.map fun y=>(ev e y).getD undef:=by
  intro y hy;cases y with
  |none=>rfl
  |some z=>
   obtain⟨v,hv⟩:=C7.1 (hy z rfl);simp[bC ha hv,hv]
 simp[execOp,bC ha hx,hm lo vW.1,hm hi vW.2,run_sliceAt_string (w:=w) t _ _ _ _ hu.out,Instr.slice,run_underlying hu.out,hb]
theorem ai7 {t el:TypeId}{sz aS:Nat}(hf:cj P t el sz aS){ob:Option Nat}{a a2:Option Addr}{len cap m c2:Nat}{cs news:List Value}(hO:aG w el sz ob a len cap cs)(hN:bM w a2 news)(hnl:news.length=m*sz)(h1:∀u∈news,u.oneCell'=true)
  (hb:(len+m)*aS≤140737488355328) (hm:len+m≤140737488355328) (hz:0<sz) :
  ∃cO a' c' w',(Builtin.append_ #[t,t] ty #[.slice a len cap, .slice a2 m c2]).run P w = .ok (.slice a' (len+m) c') w'∧aG w' el sz cO a' (len+m) c' (cs++news)∧Mod (fun k=>some k=ob) w w'∧(∀x,cO=some x→ob=some x∨w.heap.size≤x)∧(∀x,a'=some x→cO=some x.block∨(a=some x∧cO=ob)):=by
 obtain⟨hu,ii,z,hi,jT,hs,mj,iE⟩:=hf.facts;subst hs;subst mj;have zz:len+m≤maxLen:=by unfold maxLen;omega
 have M0:((len+m:Nat):Int)≤9223372036854775807:=by omega
 -- nothing comes
 by_cases pM:m=0
 ·subst pM;have BV:news=[]:=ga (by simpa using hnl);subst BV;refine⟨ob,a,cap,w,?_,by simpa using hO,Mod.refl w,fun x hx => .inl hx,fun x hx => .inr ⟨hx,rfl⟩⟩;have hle:len≤cap:=by
   obtain⟨_,⟨_,h,_,_⟩|⟨b,_,rfl,hl,h|⟨g,c,cur,hv,_,hg,hle,_⟩⟩⟩:=hO
   ·omega
   ·cases h.1
   ·simp only[Value.slice.injEq] at hv;omega
  have xT:(Builtin.firstCells ii.size 0 (.slice a2 0 c2)).run P w = .ok #[] w:=by
   cases a2 with
   |none=>simp[Builtin.firstCells]
   |some x=>simpa using run_firstCells_some (P:=P) w ii.size 0 x 0 c2 [] (by simp) (by simp)
  cases a with
  |none=>simp[Builtin.append_,run_underlying hu,Go.sizeOf,typeInfo,hi,Builtin.lenOf,hle,xT]
  |some x=>simp[Builtin.append_,run_underlying hu,Go.sizeOf,typeInfo,hi,Builtin.lenOf,hle,xT,storeCells]
 ·have kF:0<m:=by omega
  have zZ:0<news.length:=by rw[hnl];exact Nat.mul_pos kF hz
  obtain⟨b2,o2,rfl,vQ⟩:=hN.rV zZ;have nU:∀j u,news[j]?=some u→w.cell? ((⟨b2,o2,none⟩:Addr).add j)=some u:=fun j u hu=>by rw[ir];exact vQ j u hu
  obtain⟨hl,⟨rfl,rfl,dY,h0⟩|⟨b,rfl,rfl,gY⟩⟩:=hO
  ·-- it is full: it is copied
   have fresh:∀(rX c':Nat),(w.drew.alloc (.cells (cs.toArray++news.toArray++Builtin.zeroCells z.cells (grownCap w (cap+m) rX el - (cap+m))) el)).ownsRow 0 el ii.size (.slice (some ⟨w.heap.size,0,none⟩) (cap+m) (grownCap w (cap+m) rX el)) (cap+m) (cs++news):=by
    intro rX _;have kB:=grownCap_ge w (cap+m) rX el;have rE:grownCap w (cap+m) rX el≤maxLen:=grownCap_le_maxLen w (cap+m) rX el zz;have hlen:(cs++news).length=(cap+m)*ii.size:=by rw[bJ,hl,hnl,iP]
    refine⟨hlen, .inr ⟨w.heap.size,_,_,rfl,bh _,heap_alloc_new w.drew _,kB,rE,?_,?_⟩⟩
    ·simp only[Array.size_append,xh,size_zeroCells,iE,hl,hnl,←iP];congr 1;omega
    ·simp only[Array.toList_append,cP];rw[←cP,←hlen];exact vk
   have wb:∀o,Mod (fun k=>some k=none) w (w.drew.alloc o):=fun o=>Ext.mod ((Ext.drew w).trans (Ext.alloc w.drew o))
   match a,dY,h0 with
   |none,dY,h0=>
    have HU:=h0 rfl;subst HU;have ui:cs=[]:=dY;subst ui;have hr:=run_append_nil (P:=P) w t ty el ii z hu hi jT ⟨b2,o2,none⟩ m c2 news hnl nU kF ah (by simp at hb;omega);have SE:=fresh 0 0;simp only[dA,jF,Array.empty_append] at SE ⊢;exact⟨some w.heap.size,_,_,_,hr,aG.new SE,wb _,fun x hx=>by cases hx;exact .inr (bj _),fun x hx=>by cases hx;exact .inl rfl⟩
   |some ⟨b1,o1,none⟩,dY,h0=>
    have hr:=run_append_grow (P:=P) w t ty el ii z hu hi jT ⟨b1,o1,none⟩ cap cap cs hl (fun j u hu=>by rw[ir];exact dY j u hu) ⟨b2,o2,none⟩ m c2 news hnl nU ah M0 (growslice_fits ah hb);exact⟨some w.heap.size,_,_,_,hr,aG.new (fresh cap 0),wb _,fun x hx=>by cases hx;exact .inr (bj _),fun x hx=>by cases hx;exact .inl rfl⟩
   |some ⟨b1,o1,some s1⟩,dY,h0=>
    have ui:cs=[]:=dY;subst ui;have hr:=run_append_grow (P:=P) w t ty el ii z hu hi jT ⟨b1,o1,some s1⟩ cap cap [] hl (fun j u hu=>by simp at hu) ⟨b2,o2,none⟩ m c2 news hnl nU ah M0 (growslice_fits ah hb);exact⟨some w.heap.size,_,_,_,hr,aG.new (fresh cap 0),wb _,fun x hx=>by cases hx;exact .inr (bj _),fun x hx=>by cases hx;exact .inl rfl⟩
  ·-- it is Ge anf own
   obtain⟨v',w',hr,adL,hgr,_⟩:=run_append_own (P:=P) w 0 t ty el ii z ii.size ii.bytes hu hi jT rfl rfl iE hz (.slice (some ⟨b,0,none⟩) len cap) len cs gY ⟨b2,o2,none⟩ m c2 news hnl nU h1 zz hb (bh _);have hv:∃b' c',v' = .slice (some ⟨b',0,none⟩) (len+m) c'∧(b'=b∨w.heap.size≤b'):=by
    obtain⟨_,h|⟨g,c,cur,h,_,hg,_,_,ui,qL⟩⟩:=gY
    ·cases h.1
    ·cases h
     by_cases x9:len+m≤cap
     ·have wi:=run_append_room (P:=P) w t ty el ii hu hi b len cap cur hg ⟨b2,o2,none⟩ m c2 news hnl nU h1 x9 (by rw[hnl,ui,←iP];exact y7 _ x9);rw[hr] at wi;cases wi;exact⟨_,_,rfl, .inl rfl⟩
     ·have wi:=run_append_grow (P:=P) w t ty el ii z hu hi jT ⟨b,0,none⟩ len cap cs hl (fun j u hu=>by
       rw[ir,cell_of_row w _ _ cur el _ hg];rw[←qL,vm] at hu;split at hu
       ·simpa using hu
       ·cases hu) ⟨b2,o2,none⟩ m c2 news hnl nU ah M0 (growslice_fits ah hb)
      rw[hr] at wi;cases wi;exact⟨_,_,rfl, .inr (bj _)⟩
   obtain⟨b',c',rfl,ug⟩:=hv;refine⟨some b',_,c',w',hr,aG.new adL,(Mod.Ot hgr).weaken fun k _ h=>by simpa[Value.ownBlock] using h,fun x hx=>?_,fun x hx=>by cases hx;exact .inl rfl⟩;cases hx
   rcases ug with rfl|h
   ·exact .inl rfl
   ·exact .inr h
theorem GO.append [Fr]{x y:Operand}{t el:TypeId}{sz aS:Nat}[hf:cj P t el sz aS]{ob:Option Nat}{a a2:Option Addr}{len cap m c2:Nat}{cs news:List Value}(hO:aG w el sz ob a len cap cs)(hN:bM w a2 news)(hnl:news.length=m*sz)(h1:∀u∈news,u.oneCell'=true)
  (hb:(len+m)*aS≤140737488355328) (hm:len+m≤140737488355328) (hz:Nat.blt 0 sz=true) (hw:aH ops e ⟨dst, .call ⟨.builtin .append,#[x,y],#[t,t]⟩,ty,pos,an,g⟩=some true) (hx:ev e x=some (.slice a len cap)) (hy:ev e y=some (.slice a2 m c2)) (hd:fits n dst=true)
  (h:∀cO a' c' w',aG w' el sz cO a' (len+m) c' (cs++news)→Mod (fun k=>some k=ob) w w'→(∀x,cO=some x→ob=some x∨w.heap.size≤x)→(∀x,a'=some x→cO=some x.block∨(a=some x∧cO=ob)) →
    (gG ops i=false→S w→S w')∧GX P ops Q S n p (e.put dst (.slice a' (len+m) c')) w'):GO P ops Q S n .ax i ⟨dst, .call ⟨.builtin .append,#[x,y],#[t,t]⟩,ty,pos,an,g⟩ p e w:=by
 have lN:0<sz:=by have:=hz;simp[Nat.blt] at this;omega
 obtain⟨cO,a',c',w',hr,gY,wb,fq,b6⟩:=ai7 (P:=P) (ty:=ty) hf hO hN hnl h1 hb hm lN (c2:=c2);refine GO.run (R:=fun u w1=>u = .slice a' (len+m) c'∧w1=w') hw hd (fun ac ha=>⟨_,_,w',?_, .inl rfl,rfl,rfl⟩) (by rintro _ w1 ⟨rfl,Nk⟩;rw[Nk];exact h cO a' c' w' gY wb fq b6);simp[execOp,resolve,invoke,builtin,bC ha hx,bC ha hy,hr]
theorem ai9 {l:List UInt8}{a:Option Addr}{c:Nat}(h:bM w a (nK l)):(Conv.bytesToString (.slice a l.length c)).run P w = .ok (str l) w:=by
 match a,h with
 |none,h=>
  have:l=[]:=by
   have:=congrArg List.length h;simpa using ga (by simpa using this)
  subst this;rfl
 |some ⟨b,o,none⟩,h=>
  have h1:=run_loadCells_list (P:=P) w ⟨b,o,none⟩ (nK l) (fun j v hv=>by rw[ir];exact h j v hv);have h2:nK l=(l.map fun x=>(x.toNat:Int)).map (Value.int .u8):=by simp[nK,GU]
  rw[agq,h2] at h1;rw[run_bytesToString w _ _ _ _ h1];have key:∀(l:List UInt8) (s:ByteArray),(l.map fun x=>(x.toNat:Int)).foldl (fun(r:ByteArray) n=>r.push (UInt8.ofNat n.toNat)) s=⟨s.data++l.toArray⟩:=by
   intro l
   induction l with
   |nil=>intro s;simp
   |cons x r ih=>
    intro s;rw[cK,ph,ih];simp[ByteArray.push]
  have h0:ByteArray.empty.data=#[]:=rfl;rw[key,h0];simp[str]
 |some ⟨b,o,some s⟩,h=>
  have h0:l=[]:=by
   have:=congrArg List.length h;simpa using ga (by simpa using this)
  subst h0;have h1:=run_loadCells_list (P:=P) w ⟨b,o,some s⟩ [] (fun j v hv=>by simp at hv);rw[tF] at h1 ⊢;rw[run_bytesToString w _ _ _ [] h1];rfl
theorem GO.toStr [Fr]{src dT el:TypeId}[hs:bH P src (.slice el)][sT:bH P el (.int .u8)][iM:bH P dT .string]{x:Operand}{l:List UInt8}{a:Option Addr}{c:Nat}(h:bM w a (nK l))(hw:aH ops e ⟨dst, .convert src dT x,ty,pos,an,g⟩=some true)(hx:ev e x=some (.slice a l.length c))(hd:fits n dst=true)
  (hh:GX P ops Q S n p (e.put dst (str l)) w):GO P ops Q S n .ax i ⟨dst, .convert src dT x,ty,pos,an,g⟩ p e w:=
 GO.run (R:=fun u w'=>u=str l∧w'=w) hw hd (fun ac ha=>⟨_,_,w,by simp[execOp,bC ha hx,run_convert_bytes_string w src dT el a _ c hs.out sT.out iM.out,ai9 h], .inl rfl,rfl,rfl⟩) (by rintro _ _ ⟨rfl,rfl⟩;exact⟨fun _ h=>h,hh⟩)
end
def aj (P:Program)(f:FuncId)(args:Array Value)(w:World)(R:Value→World→Prop):Prop:=
 Calls P f args w fun en w'=>∃v,en = .returned v∧R v w'
theorem aj.mono {P:Program}{f:FuncId}{args:Array Value}{w:World}{R R':Value→World→Prop}(h:aj P f args w R)(hr:∀v w',R v w'→R' v w'):aj P f args w R':=
 Calls.mono h fun _ _ ⟨v,he,hR⟩=>⟨v,he,hr v _ hR⟩
def Qg (P:Program)(f:FuncId):Bool:=
 match P.funcs[f]? with
 |some fn=>!(fn.name == "runtime.NumGoroutine")&&fn.body.isSome
 |none=>false
class aw (P:Program) (f:FuncId):Prop where
 out:Qg P f=true
theorem W7 {P:Program}{f:FuncId}(h:aw P f)(args:Array Value)(w:World):(callFunc f args).run P w = .ok (.enter f args) w:=by
 have:=h.out;unfold Qg at this;split at this
 ·rename_i fn hf
  simp only[oq,Bool.not_eq_true'] at this;obtain⟨h1,h2⟩:=this;have h3:fn.body.isNone=false:=by cases hb:fn.body<;>simp_all
  simp only[callFunc,Sem.run_bind,run_program,Result.andThen_ok,hf,h1,h3];rfl
 ·cases this
section
variable {P:Program}{ops:Array Oper}{Q:Exit→Act→World→Prop}{S:World→Prop}{n:Nat}
variable {i:Nat}{p:bZ}{e:Env}{w:World}{k:Kd}{dst:Option Tmp}{ty:TypeId}{pos:String}{an:Array Edge}{g:Option (Nat×Bool)}
theorem GO.ru [Fr]{x:Operand}{args:Array Operand}{ts:Array TypeId}{f:FuncId}{fs cs:Array Value}{vs:List Value}{R:Value→World→Prop}[hf:aw P f](hw:aH ops e ⟨dst, .call ⟨.value x,args,ts⟩,ty,pos,an,g⟩=some true)(hx:ev e x=some (.func (.func f) fs cs))(hy:ku e args.toList=some vs)(hd:fits n dst=true)
  {al:List Value}(b6:fs.toList++vs++cs.toList=al) (hc:aj P f al.toArray w R)
  (h:∀v w',R v w'→(gG ops i=false→S w→S w')∧GX P ops Q S n p (e.put dst v) w'):GO P ops Q S n .ax i ⟨dst, .call ⟨.value x,args,ts⟩,ty,pos,an,g⟩ p e w:=by
 refine GO.act (R:=R) hw hd (fun a ha K hK=>?_) h;have jP:(fs++vs.toArray++cs)=al.toArray:=by
  subst b6;apply Array.toList_inj.1;simp
 have adV:(execOp a.eval ⟨dst, .call ⟨.value x,args,ts⟩,ty,pos,an,g⟩).run P w = .ok (.enter f al.toArray) w:=by
  simp only[execOp,resolve,Sem.run_bind,Deferred.ofValue,bC ha hx,Hq ha hy,Sem.run_pure,Result.andThen_ok,invoke,W7 hf,jP]
 refine⟨fun f _=>trivial,?_⟩;rw[JV adV (by simp),Oper.uponIn_enter];refine⟨fun h=>(by cases h),Fr.calls.2 (Calls.mono hc fun en w' ⟨v,he,hR⟩=>?_)⟩;subst he;exact hK v w' hR
theorem CW {P:Program}{b:Frame}{a:Act}{k:List Item}{cs:List Frame}{w:World}{c:Code}:step P (lone (b.atR a (.code (.scope c)::k)) cs w) = .next (lone (b.atR a (.code c :: .inScope c::k)) cs w):=
 step_lone_go (by simp[stepG,stepG.exec,Frame.atR])
theorem alm {P:Program}{b:Frame}{a:Act}{k:List Item}{cs:List Frame}{w:World}{c:Code}:step P (lone (b.atR a (.inScope c::k)) cs w) = .next (lone (b.atR a k) cs w):=
 step_lone_go (by simp[stepG,stepG.exec,Frame.atR])
theorem amd {F:Fence}{m:Nat}{P:Program}{Q:Exit→Act→World→Prop}{a:Act}{w:World}{c:Code}(h:c.wpIn F m P (Exit.noGoto Q) a w):(Code.scope c).wpIn F m P Q a w:=by
 intro b k cs Tz hb hr;have h0:(lone (b.atR a (.code (.scope c)::k)) cs w).fenced P F:=fenced_calm hb hr rfl;obtain⟨e,Di,Gk,hq,xO⟩:=h b (.inScope c::k) cs Tz hb hr;cases e with
 |normal=>exact⟨.normal,Di,Gk,hq, .head h0 CW (StepsIn.trans xO (.one (fenced_calm hb hr rfl) alm))⟩
 |exit id=>
  have hx:exitTo id (.inScope c::k)=exitTo id k:=by simp[exitTo]
  exact⟨_,Di,Gk,hq,fun k' hk => .head h0 CW (xO.1 k' (by rw[hx];exact hk)),
   fun EK hk=>let⟨k₁,h1,h2⟩:=xO.2 EK (by rw[hx];exact hk);⟨k₁,h1, .head h0 CW h2⟩⟩
 |goto l=>exact hq.elim
 |ret=>exact⟨_,Di,Gk,hq, .of_steps (.one h0 CW) xO⟩
 |panic ch=>exact⟨_,Di,Gk,hq, .of_steps (.one h0 CW) xO⟩
 |outgrown=>exact⟨_,Di,Gk,hq, .of_steps (.one h0 CW) xO⟩
def GC [Fr](P:Program)(c:Code)(Q:Exit→Act→World→Prop)(n:Nat)(e:Env)(w:World):Prop:=∀a,fA a e n→c.wpIn Fr.F 0 P Q a w
def GQ [Fr](Q:Exit→Act→World→Prop)(x:Exit)(n:Nat)(e:Env)(w:World):Prop:=∀a,fA a e n→Q x a w
def Go [Fr](P:Program)(c:Code)(Q:Exit→Act→World→Prop):Exit→Act→World→Prop:=Exit.then (fun a w=>c.wpIn Fr.F 0 P Q a w) Q
theorem GC.sub [Fr]{c:Code}{e':Env}(hs:Sub e' e)(h:GC P c Q n e' w):GC P c Q n e w:=fun a ha=>h a (ha.sub hs)
theorem GC.pick [Fr]{c:Code}{e':Env}(l:List Nat)(hs:uW e l=some e')(h:GC P c Q n e' w):GC P c Q n e w:=h.sub (cZ hs)
theorem GQ.sub [Fr]{x:Exit}{e':Env}(hs:Sub e' e)(h:GQ Q x n e' w):GQ Q x n e w:=fun a ha=>h a (ha.sub hs)
theorem GQ.pick [Fr]{x:Exit}{e':Env}(l:List Nat)(hs:uW e l=some e')(h:GQ Q x n e' w):GQ Q x n e w:=h.sub (cZ hs)
theorem GC.seq [Fr]{x y:Code}(h:GC P x (Go P y Q) n e w):GC P (.seq x y) Q n e w:=fun a ha=>wpIn_seq (h a ha)
theorem GC.skip [Fr](h:GQ Q .normal n e w):GC P .skip Q n e w:=fun a ha=>wpIn_skip (h a ha)
theorem GC.ret [Fr](h:GQ Q .ret n e w):GC P .ret Q n e w:=fun a ha=>wpIn_ret (h a ha)
theorem GC.exit [Fr]{id:Nat}(h:GQ Q (.exit id) n e w):GC P (.exit id) Q n e w:=fun a ha=>wpIn_exit (h a ha)
theorem GC.block [Fr]{id:Nat}{c:Code}(h:GC P c (Exit.inBlock id Q) n e w):GC P (.block id c) Q n e w:=fun a ha=>wpIn_block (h a ha)
theorem GC.cond [Fr]{c:Operand}{x y:Code}{b:Bool}(hc:ev e c=some (.bool b))(h1:b=true→GC P x Q n e w)(h2:b=false→GC P y Q n e w):GC P (.cond c x y) Q n e w:=
 fun a ha=>wpIn_cond_split (bC ha hc) (fun hb=>h1 hb a ha) (fun hb=>h2 hb a ha)
theorem GQ.DG [Fr]{c:Code}(h:GC P c Q n e w):GQ (Go P c Q) .normal n e w:=h
theorem GQ.RB [Fr]{c:Code}{id:Nat}(h:GQ Q (.exit id) n e w):GQ (Go P c Q) (.exit id) n e w:=h
theorem GQ.RC [Fr]{c:Code}(h:GQ Q .ret n e w):GQ (Go P c Q) .ret n e w:=h
theorem GQ.T7 [Fr]{id:Nat}(h:GQ Q .normal n e w):GQ (Exit.inBlock id Q) .normal n e w:=h
theorem GQ.T9 [Fr]{id:Nat}(h:GQ Q .ret n e w):GQ (Exit.inBlock id Q) .ret n e w:=h
theorem GQ.T5 [Fr]{id:Nat}(h:GQ Q .normal n e w):GQ (Exit.inBlock id Q) (.exit id) n e w:=fun a ha=>by simpa[Exit.inBlock] using h a ha
theorem GQ.T6 [Fr]{id I2:Nat}(aR:Nat.beq I2 id=false)(h:GQ Q (.exit I2) n e w):GQ (Exit.inBlock id Q) (.exit I2) n e w:=fun a ha=>by
 have:I2≠id:=Nat.ne_of_beq_eq_false aR;simpa[Exit.inBlock,this] using h a ha
def yI:bZ→Option (List Nat)
 |.done=>some []
 |.pure i p | .ax i p=>(yI p).map (i :: ·)
 |_=>none
theorem Pw [Fr]:∀(p:bZ) (l:List Nat) (a:Act) (w:World),yI p=some l→sr P ops Q S p a w→wpOpsIn Fr.F 0 P ops Q l a w
 |.done,l,a,w,hl,h=>by simp[yI] at hl;subst hl;exact h
 |.pure i p,l,a,w,hl,h=>by
  simp only[yI,vp] at hl;obtain⟨l',hl',rfl⟩:=hl;obtain⟨o,v,ho,hy,hp⟩:=h;rw[wpOpsIn_cons];exact YieldsIf.Gj ho hy trivial (Pw p l' _ w hl' hp)
 |.ax i p,l,a,w,hl,h=>by
  simp only[yI,vp] at hl;obtain⟨l',hl',rfl⟩:=hl;rw[wpOpsIn_cons];exact wpOpIn_mono (fun a' w' hh=>Pw p l' a' w' hl' hh.2) h
 |.read ..,_,_,_,hl,_=>by cases hl
 |.alt ..,_,_,_,hl,_=>by cases hl
theorem GC.region [Fr]{id:Nat}{ops:Array Oper}(pl:bZ)(hp:yI pl=some (List.range ops.size))(h:GX P ops Q (fun _=>True) n pl e w):GC P (.region id ops false) Q n e w:=
 fun a ha=>wpIn_region (Pw pl _ a w hp (h a ha))
theorem GX.done [Fr](h:GQ Q .normal n e w):GX P ops Q S n .done e w:=h
theorem GX.QY [Fr](h:GQ Q .normal n e w):GX P ops (NoPanic Q) S n .done e w:=h
def y8 [Fr]{X:Type}(E:X→Env)(J:X→World→Prop)(μ:X→Nat)(n:Nat)(m:Nat)(a:Act)(w:World):Prop:=∃x,fA a (E x) n∧J x w∧μ x<m
theorem GC.loop [Fr]{X:Type}{c:Code}(E:X→Env)(J:X→World→Prop)(μ:X→Nat)(x0:X)(h0:Sub (E x0) e)(hJ:J x0 w)
  (round:∀x w,J x w→GC P c (Exit.then (y8 E J μ n (μ x)) Q) n (E x) w):GC P (.loop c) Q n e w:=by
 intro a ha;have key:∀(m:Nat) (a:Act) (w:World),(∃x,μ x<m∧fA a (E x) n∧J x w)→Code.roundsIn Fr.F 0 P c Q m a w:=by
  intro m
  induction m with
  |zero=>rintro a w ⟨x,hx,_⟩;omega
  |succ m ih=>
   rintro a w ⟨x,hx,hk,hj⟩;rw[roundsIn_succ];refine Code.wpIn_mono (fun e a w hq=>?_) (round x w hj a hk);cases e with
   |normal=>obtain⟨x',h1,h2,h3⟩:=hq;exact ih a w ⟨x',by omega,h1,h2⟩
   |_=>exact hq
 exact wpIn_loop_rounds (μ x0+1) (key _ a w ⟨x0,Nat.lt_succ_self _,ha.sub h0,hJ⟩)
theorem GQ.again [Fr]{X:Type}{E:X→Env}{J:X→World→Prop}{μ:X→Nat}{m:Nat}(x:X)(hs:Sub (E x) e)(hJ:J x w)(hm:μ x<m):GQ (Exit.then (y8 E J μ n m) Q) .normal n e w:=fun _ ha=>⟨x,ha.sub hs,hJ,hm⟩
theorem GQ.VJ [Fr]{X:Type}{E:X→Env}{J:X→World→Prop}{μ:X→Nat}{m id:Nat}(h:GQ Q (.exit id) n e w):GQ (Exit.then (y8 E J μ n m) Q) (.exit id) n e w:=h
theorem GQ.VK [Fr]{X:Type}{E:X→Env}{J:X→World→Prop}{μ:X→Nat}{m:Nat}(h:GQ Q .ret n e w):GQ (Exit.then (y8 E J μ n m) Q) .ret n e w:=h
theorem GC.cut [Fr]{X:Type}{c:Code}(E:X→Env)(J:X→World→Prop)(h1:GC P c (Exit.then (fun a w=>∃x,fA a (E x) n∧J x w) Q) n e w)(h2:∀x w,J x w→GQ Q .normal n (E x) w):GC P c Q n e w:=by
 intro a ha;refine Code.wpIn_mono (fun e a w hq=>?_) (h1 a ha);cases e with
 |normal=>obtain⟨x,hk,hj⟩:=hq;exact h2 x w hj a hk
 |_=>exact hq
theorem GQ.dx [Fr]{X:Type}{E:X→Env}{J:X→World→Prop}(x:X)(hs:Sub (E x) e)(hJ:J x w):GQ (Exit.then (fun a w=>∃x,fA a (E x) n∧J x w) Q) .normal n e w:=fun _ ha=>⟨x,ha.sub hs,hJ⟩
theorem GQ.QV [Fr]{X:Type}{E:X→Env}{J:X→World→Prop}{id:Nat}(h:GQ Q (.exit id) n e w):GQ (Exit.then (fun a w=>∃x,fA a (E x) n∧J x w) Q) (.exit id) n e w:=h
theorem GQ.QW [Fr]{X:Type}{E:X→Env}{J:X→World→Prop}(h:GQ Q .ret n e w):GQ (Exit.then (fun a w=>∃x,fA a (E x) n∧J x w) Q) .ret n e w:=h
def Dg (t:Nat):List Value→Env
 | []=>[]
 |v::r=>(t,v)::Dg (t+1) r
theorem VI:∀(l:List Value) (t s:Nat) (v:Value),look s (Dg t l)=some v→t≤s∧l[s - t]?=some v
 | [],t,s,v,h=>by cases h
 |u::r,t,s,v,h=>by
  simp only[Dg,look] at h;cases hb:Nat.beq t s with
  |true=>
   have:=Nat.eq_of_beq_eq_true hb;rw[hb] at h;subst this;simp at h;simp[h]
  |false=>
   have aR:=Nat.ne_of_beq_eq_false hb;rw[hb] at h;obtain⟨h1,h2⟩:=VI r (t+1) s v h;refine⟨by omega,?_⟩;have:s - t=(s - (t+1))+1:=by omega
   rw[this,List.getElem?_cons_succ];exact h2
theorem aj.enter {f:FuncId}{fn:Func}{c:Code}{vs:List Value}{R:Value→World→Prop}(hf:P.funcs[f]?=some fn)(hb:fn.body=some c)(hn:fn.ntmps=n)(hle:Nat.ble vs.length n=true)
  (h:GC P c (bodyPost P fn (fun en w'=>∃v,en = .returned v∧R v w')) n (Dg 0 vs) w):aj P f vs.toArray w R:=by
 have S1:=vi hle;have hk:fA { tmps:=vs.toArray++Array.replicate (fn.ntmps - vs.toArray.size) undef,defers:=[]} (Dg 0 vs) n:=by
  refine⟨rfl,by simp[hn];omega,fun t v ht=>?_⟩;obtain⟨_,h2⟩:=VI vs 0 t v ht;have aP:t<vs.length:=(aV.1 (by simpa using h2)).1;rw[Array.getElem?_append_left (by simpa using aP)];simpa using h2
 exact calls_of_wp hf hb ((wpIn_wide (n:=0)).1 (h _ hk))
theorem GQ.aiM {fn:Func}{t:Tmp}{v:Value}{R:Value→World→Prop}{x:Exit}(hx:x = .ret∨x = .normal)(hr:fn.results=#[.tmp t])(hl:look t e=some v)(hR:R v w):GQ (bodyPost P fn (fun en w'=>∃v,en = .returned v∧R v w')) x n e w:=by
 intro a ha;have hs:=ha.slot t v hl;have:(results fn a.tmps).run P w = .ok v w:=by rw[results_tmp hr];simp[hs]
 rcases hx with rfl|rfl<;>exact⟨ha.defers,v,this,v,rfl,hR⟩
theorem GQ.WZ {fn:Func}{R:Value→World→Prop}{x:Exit}(hx:x = .ret∨x = .normal)(hr:fn.results=#[])(hR:R (.tuple #[]) w):GQ (bodyPost P fn (fun en w'=>∃v,en = .returned v∧R v w')) x n e w:=by
 intro a ha;have:(results fn a.tmps).run P w = .ok (.tuple #[]) w:=results_none hr _ _ _
 rcases hx with rfl|rfl<;>exact⟨ha.defers,_,this,_,rfl,hR⟩
theorem GQ.aiN {fn:Func}{t u:Tmp}{v v':Value}{R:Value→World→Prop}{x:Exit}(hx:x = .ret∨x = .normal)(hr:fn.results=#[.tmp t, .tmp u])(hl:look t e=some v)(hl':look u e=some v')(hR:R (.tuple #[v,v']) w):GQ (bodyPost P fn (fun en w'=>∃v,en = .returned v∧R v w')) x n e w:=by
 intro a ha;have:(results fn a.tmps).run P w = .ok (.tuple #[v,v']) w:=by rw[results_tmp2 hr];simp[ha.slot t v hl,ha.slot u v' hl']
 rcases hx with rfl|rfl<;>exact⟨ha.defers,_,this,_,rfl,hR⟩
theorem GQ.aiO {fn:Func}{t u s:Tmp}{v v' tz:Value}{R:Value→World→Prop}{x:Exit}(hx:x = .ret∨x = .normal)(hr:fn.results=#[.tmp t, .tmp u, .tmp s])(hl:look t e=some v)(hl':look u e=some v')(ME:look s e=some tz)(hR:R (.tuple #[v,v',tz]) w):GQ (bodyPost P fn (fun en w'=>∃v,en = .returned v∧R v w')) x n e w:=by
 intro a ha;have:(results fn a.tmps).run P w = .ok (.tuple #[v,v',tz]) w:=by simp[results,hr,ha.slot t v hl,ha.slot u v' hl',ha.slot s tz ME]
 rcases hx with rfl|rfl<;>exact⟨ha.defers,_,this,_,rfl,hR⟩
theorem OW {t:TypeId}{sz:Nat}(hf:aC P t true sz){b o:Nat}{l:List Value}(h:At w b o l)(hl:l.length=sz):(loadVar t ⟨b,o,none⟩).run P w = .ok (.agg l.toArray) w:=by
 have:=OX (P:=P) hf h hl;simpa[Instr.loadAt,Instr.sureAddr] using this
theorem GQ.aiP {fn:Func}{p:Tmp}{t:TypeId}{sz b o:Nat}{l:List Value}{R:Value→World→Prop}{x:Exit}[hf:aC P t true sz](hx:x = .ret∨x = .normal)(hr:fn.results=#[.cell p t])(hp:look p e=some (.pointer (some ⟨b,o,none⟩)))(hA:At w b o l)(hl:l.length=sz)(hR:R (.agg l.toArray) w):GQ (bodyPost P fn (fun en w'=>∃v,en = .returned v∧R v w')) x n e w:=by
 intro a ha;have:(results fn a.tmps).run P w = .ok (.agg l.toArray) w:=by simp[results,hr,ha.slot p _ hp,asAddr,OW hf hA hl]
 rcases hx with rfl|rfl<;>exact⟨ha.defers,_,this,_,rfl,hR⟩
theorem GQ.aiQ {fn:Func}{p u:Tmp}{t:TypeId}{sz b o:Nat}{l:List Value}{v':Value}{R:Value→World→Prop}{x:Exit}[hf:aC P t true sz](hx:x = .ret∨x = .normal)(hr:fn.results=#[.cell p t, .tmp u])(hp:look p e=some (.pointer (some ⟨b,o,none⟩)))(hu:look u e=some v')(hA:At w b o l)(hl:l.length=sz)(hR:R (.tuple #[.agg l.toArray,v']) w):GQ (bodyPost P fn (fun en w'=>∃v,en = .returned v∧R v w')) x n e w:=by
 intro a ha;have:(results fn a.tmps).run P w = .ok (.tuple #[.agg l.toArray,v']) w:=by simp[results,hr,ha.slot p _ hp,ha.slot u _ hu,asAddr,OW hf hA hl]
 rcases hx with rfl|rfl<;>exact⟨ha.defers,_,this,_,rfl,hR⟩
theorem GQ.aiR {fn:Func}{p u s:Tmp}{t:TypeId}{sz b o:Nat}{l:List Value}{v' tz:Value}{R:Value→World→Prop}{x:Exit}[hf:aC P t true sz](hx:x = .ret∨x = .normal)(hr:fn.results=#[.cell p t, .tmp u, .tmp s])(hp:look p e=some (.pointer (some ⟨b,o,none⟩)))(hu:look u e=some v')(hs:look s e=some tz)(hA:At w b o l)(hl:l.length=sz)(hR:R (.tuple #[.agg l.toArray,v',tz]) w):GQ (bodyPost P fn (fun en w'=>∃v,en = .returned v∧R v w')) x n e w:=by
 intro a ha;have:(results fn a.tmps).run P w = .ok (.tuple #[.agg l.toArray,v',tz]) w:=by simp[results,hr,ha.slot p _ hp,ha.slot u _ hu,ha.slot s _ hs,asAddr,OW hf hA hl]
 rcases hx with rfl|rfl<;>exact⟨ha.defers,_,this,_,rfl,hR⟩
end
theorem aj.calls {P:Program}{f:FuncId}{args:Array Value}{w:World}{R:Value→World→Prop}(h:aj P f args w R):Calls P f args w fun en w'=>∃v,en = .returned v∧R v w':=h
theorem aj.Az {P:Program}{f:FuncId}{args:Array Value}{w:World}{R:Value→World→Prop}(h:Calls P f args w fun en w'=>∃v,en = .returned v∧R v w'):aj P f args w R:=h
attribute [irreducible] GC GQ aj y8
end Go.Proofs.YtmlpbmgfmnmmmaaGreat.V
