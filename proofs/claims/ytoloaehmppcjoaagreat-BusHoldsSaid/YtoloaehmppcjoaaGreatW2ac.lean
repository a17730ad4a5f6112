/-
  Parts of the proof. No condition.
-/
import Derived.Test.YtoloaehmppcjoaaGreatW2ab
import Derived.Deep.LoopGhost
import Derived.Scope
set_option linter.unusedVariables false
set_option linter.unusedSimpArgs false
set_option maxRecDepth 8000
set_option maxHeartbeats 8000000
namespace Go.Proofs.YtoloaehmppcjoaaGreat.V
section
variable {P:Program}{ops:Array Oper}{Q:Exit→Act→World→Prop}{S:World→Prop}{n:Nat}
variable {i:Nat}{p:b6}{e:Env}{w:World}{k:Kd}{dst:Option Tmp}{ty:TypeId}{pos:String}{an:Array Edge}{g:Option (Nat×Bool)}
theorem Li [Fr]{a:Act}(ha:fJ a e n):∀(l:List (Nat×Operand)) (us:List (Nat×Value)),l.mapM (fun x=>(ev e x.2).map fun v=>(x.1,v))=some us→l.map (fun(i,x)=>(i,a.eval x))=us:=by
 intro l
 induction l with
 |nil=>intro us h;simp at h;simp[h]
 |cons x r ih=>
  intro us h;rw[List.mapM_cons] at h;cases hv:ev e x.2 with
  |none=>simp[hv] at h
  |some v=>
   cases hr:r.mapM (fun x=>(ev e x.2).map fun v=>(x.1,v)) with
   |none=>simp[hv,hr] at h
   |some vr=>
    simp[hv,hr] at h;subst h;simp[bE ha hv,←ih vr hr]
def xh (P:Program)(t:TypeId)(len:Nat)(pl:List (Nat×List Value)):Option (List Value):=
 match P.underlying t with
 |some (.slice el)=>match P.info? el with
  |some i=>match i.zero with
   |some z=>match Nat.blt 0 (len*i.size),Nat.ble (len*i.size) 16777216 with
    |true,true=>tj (fun j=>some (j*i.size,i.size)) (((Array.range (len*i.size)).map (z.cells[· % z.cells.size]!)).toList) pl
    |_,_=>none
   |none=>none
  |none=>none
 |_=>none
theorem GO.buildSlice [Fr]{t:TypeId}{len:Nat}{parts:Array (Nat×Operand)}{vs:List (Nat×Value)}{pl:List (Nat×List Value)}{out:List Value}{el:TypeId}{sz aT:Nat}[hf:cr P t el sz aT]
  (hb:xh P t len pl=some out) (j8:len*aT≤140737488355328∧len≤maxLen) (hw:aI ops e ⟨dst, .buildSlice t len parts,ty,pos,an,g⟩=some true)
  (hx:parts.toList.mapM (fun x=>(ev e x.2).map fun v=>(x.1,v))=some vs) (hp:vs.map (fun x=>(x.1,x.2.cells.toList))=pl) (hlen:out.length=len*sz) (hd:fits n dst=true)
  (h:∀b w',b=w.heap.size→aH w' el sz (some b) (some ⟨b,0,none⟩) len len out→Ext w w'→(gS ops i=false→S w→S w')∧GX P ops Q S n p (e.put dst (.slice (some ⟨b,0,none⟩) len len)) w'):GO P ops Q S n .aw i ⟨dst, .buildSlice t len parts,ty,pos,an,g⟩ p e w:=by
 refine GO.run (R:=fun u w'=>u = .slice (some ⟨w.heap.size,0,none⟩) len len∧aH w' el sz (some w.heap.size) (some ⟨w.heap.size,0,none⟩) len len out∧Ext w w') hw hd (fun a ha=>?_) (by rintro _ w' ⟨rfl,h1,h2⟩;exact h _ w' rfl h1 h2);have Aa:(parts.map fun(i,x)=>(i,a.eval x)).toList=vs:=by simpa using Li ha parts.toList vs hx
 obtain⟨hu,ii,z,hi,hz,hs,_,iR⟩:=hf.facts;unfold xh at hb;simp only[hu,hi,hz] at hb;split at hb
 ·rename_i h1 h2
  have kS:¬len*ii.size=0:=by have:=h1;simp[Nat.blt] at this;omega
  have hle:¬len*ii.size > 2^24:=by have:=vq h2;omega
  have Er:=fill_eq _ vs pl _ out hp hb;subst hs;refine⟨_,_,w.alloc (.cells out.toArray el),?_, .inl rfl,rfl,?_,Ext.alloc _ _⟩
  ·simp only[execOp,Sem.run_bind,Instr.buildSlice,run_underlying hu,Result.andThen_ok,Go.sizeOf,typeInfo,run_program,hi,Sem.run_pure,if_neg hle,if_neg kS,zeroValue,hz,Aa];rw[Er];simp[newRow]
  ·refine aH.new ⟨hlen, .inr ⟨w.heap.size,len,out.toArray,rfl,bh _,heap_alloc_new w _,aY _,j8.2,by simpa using hlen,?_⟩⟩;rw[←hlen];simp
 ·cases hb
theorem GO.makeSlice [Fr]{t:TypeId}{x y:Operand}{k1 k2:IntKind}{l c:Int}{el:TypeId}{sz aT:Nat}[hf:cr P t el sz aT]{zl:List Value}(pc:xA P el=some zl)
  (hw:aI ops e ⟨dst, .makeSlice t x y,ty,pos,an,g⟩=some true) (hx:ev e x=some (.int k1 l)) (hy:ev e y=some (.int k2 c)) (h0:0≤l) (BN:l≤c) (hb:(aT:Int)*c≤281474976710656) (zz:c≤4611686018427387904) (hd:fits n dst=true)
  (h:∀b w',b=w.heap.size→aH w' el sz (some b) (some ⟨b,0,none⟩) l.toNat c.toNat ((List.replicate l.toNat zl).flatten)→Ext w w'→(gS ops i=false→S w→S w')∧GX P ops Q S n p (e.put dst (.slice (some ⟨b,0,none⟩) l.toNat c.toNat)) w'):GO P ops Q S n .aw i ⟨dst, .makeSlice t x y,ty,pos,an,g⟩ p e w:=by
 refine GO.run (R:=fun u w'=>u = .slice (some ⟨w.heap.size,0,none⟩) l.toNat c.toNat∧aH w' el sz (some w.heap.size) (some ⟨w.heap.size,0,none⟩) l.toNat c.toNat ((List.replicate l.toNat zl).flatten)∧Ext w w') hw hd (fun a ha=>?_) (by rintro _ w' ⟨rfl,h1,h2⟩;exact h _ w' rfl h1 h2);obtain⟨hu,ii,z,hi,hz,hs,mF,iR⟩:=hf.facts;subst hs;subst mF;have pd:z.cells.toList=zl:=by
  unfold xA at pc;simp[hi,hz] at pc;simpa using pc
 have hr:=run_make (P:=P) w t el ii z hu hi hz k1 k2 l c h0 BN hb ah;refine⟨_,_,w.alloc (.cells (madeCells z.cells (c.toNat*ii.size)) el),by simp[execOp,bE ha hx,bE ha hy,hr], .inl rfl,rfl,?_,Ext.alloc _ _⟩;have Cd:zl.length=ii.size:=by rw[←pd];simpa using iR
 have ly:∀m,((List.replicate m zl).flatten).length=m*ii.size:=by
  intro m;simp[Cd]
 refine aH.new ⟨ly _, .inr ⟨w.heap.size,c.toNat,_,rfl,bh _,heap_alloc_new w _,by omega,by unfold maxLen;omega,by simp[size_madeCells],?_⟩⟩;have key:∀m,(madeCells z.cells (m*ii.size)).toList=(List.replicate m zl).flatten:=by
  intro m;apply pB;intro j
  by_cases hj:j<m*ii.size
  ·have kS:0<ii.size:=by
    rcases Nat.eq_zero_or_pos ii.size with h|h
    ·simp[h] at hj
    ·exact h
   have wq:j % ii.size<zl.length:=by rw[Cd];exact e7 _ kS
   have h1:(madeCells z.cells (m*ii.size)).toList[j]?=some (zl[j % ii.size]):=by
    simp only[madeCells,Array.toList_map,gG,Array.toList_range,List.getElem?_range hj,jV];congr 1;rw[iR];have:j % ii.size<z.cells.size:=by rw[iR];exact e7 _ kS
    rw[getElem!_pos z.cells _ this];subst pd;simp
   rw[h1];have hdiv:j / ii.size<m:=by
    rw[Nat.div_lt_iff_lt_mul kS];exact hj
   have hdm:=Nat.div_add_mod j ii.size;have:j=(j / ii.size)*zl.length+j % ii.size:=by rw[Cd,Nat.mul_comm];omega
   have Na:∀(m q r:Nat),q<m→(hr:r<zl.length)→((List.replicate m zl).flatten)[q*zl.length+r]?=some zl[r]:=by
    intro m
    induction m with
    |zero=>intro q r h;omega
    |succ m ih=>
     intro q r hq hr;rw[List.replicate_succ,oL];cases q with
     |zero=>rw[vB,dz,gp hr];simp[hr]
     |succ q=>
      rw[iD (by rw[jm];omega)];have:(q+1)*zl.length+r - zl.length=q*zl.length+r:=by rw[jm];omega
      rw[this];exact ih q r ah hr
   have h2:=Na m (j / ii.size) (j % ii.size) hdiv wq;rw[←this] at h2;exact h2.symm
  ·rw[pH (by simp[size_madeCells];omega),pH (by rw[ly];omega)]
 have Nh:(List.replicate c.toNat zl)=List.replicate l.toNat zl++List.replicate (c.toNat - l.toNat) zl:=by
  rw[List.replicate_append_replicate];congr 1;omega
 rw[key,Nh,A0,←ly l.toNat,vx]
theorem GO.xj [Fr]{k:Kd}(hk:cC k=true){t:TypeId}{x:Operand}{lo hi mx:Option Operand}{a:Option Addr}{len cap l h m:Nat}{el:TypeId}{sz aT:Nat}[hf:cr P t el sz aT]
  (hw:aI ops e ⟨dst, .slice t x lo hi mx,ty,pos,an,g⟩=some true) (hx:ev e x=some (.slice a len cap)) (hd:fits n dst=true)
  (hb:∀w:World,(Instr.sliceBounds true len cap (lo.map fun y=>(ev e y).getD undef) (hi.map fun y=>(ev e y).getD undef) (mx.map fun y=>(ev e y).getD undef)).run P w = .ok (l,h,m) w)
  (tA:(∀y,lo=some y→(ev e y).isSome)∧(∀y,hi=some y→(ev e y).isSome)∧(∀y,mx=some y→(ev e y).isSome))
  (hh:GX P ops Q S n p (e.put dst (.slice (fi a l m sz) (h - l) (m - l))) w):GO P ops Q S n k i ⟨dst, .slice t x lo hi mx,ty,pos,an,g⟩ p e w:=by
 refine GO.val (fX hk) hw hd (fun ac ha w=>?_) hh;have hm:∀(y:Option Operand),(∀z,y=some z→(ev e z).isSome)→y.map ac.eval=y.map fun y=>(ev e y).getD undef:=by
  intro y hy;cases y with
  |none=>rfl
  |some z=>
   obtain⟨v,hv⟩:=Gq.1 (hy z rfl);simp[bE ha hv,hv]
 have h1:=run_slice_any (P:=P) (w:=w) t a len cap hf.Pv (lo.map fun y=>(ev e y).getD undef) (hi.map fun y=>(ev e y).getD undef) (mx.map fun y=>(ev e y).getD undef);simp only[hb,Result.andThen_ok,hf.XG] at h1;simp only[execOp,Sem.run_bind,bE ha hx,hm lo tA.1,hm hi tA.2.1,hm mx tA.2.2,run_sliceAt_slice (w:=w) t _ _ _ _ hf.Pv,h1,Result.andThen_ok,Sem.run_pure];rfl
theorem Zx {len cap:Nat}{kl:IntKind}{l:Int}(h0:0≤l)(h1:l≤len)(w:World):(Instr.sliceBounds true len cap (some (.int kl l)) none none).run P w = .ok (l.toNat,len,cap) w:=by
 simp[Instr.sliceBounds,run_sliceBound,h0,h1]
theorem Qa {len cap:Nat}{kh:IntKind}{h:Int}(h0:0≤h)(h1:h≤cap)(w:World):(Instr.sliceBounds true len cap none (some (.int kh h)) none).run P w = .ok (0,h.toNat,cap) w:=by
 simp[Instr.sliceBounds,run_sliceBound,h0,h1]
theorem Qb {len cap:Nat}{kl kh:IntKind}{l h:Int}(h0:0≤l)(h1:l≤h)(h2:h≤cap)(w:World):(Instr.sliceBounds true len cap (some (.int kl l)) (some (.int kh h)) none).run P w = .ok (l.toNat,h.toNat,cap) w:=by
 have e1:((h.toNat:Nat):Int)=h:=Int.toNat_of_nonneg ah;simp[Instr.sliceBounds,run_sliceBound,h0,h1,h2,e1,(by omega:0≤h)]
theorem GO.XM [Fr]{k:Kd}(hk:cC k=true){t:TypeId}[hu:bI P t .string]{x:Operand}{lo hi:Option Operand}{s:ByteArray}{l h:Nat}
  (hw:aI ops e ⟨dst, .slice t x lo hi none,ty,pos,an,g⟩=some true) (hx:ev e x=some (.string s)) (hd:fits n dst=true)
  (hb:∀w:World,(Instr.sliceBounds false s.size s.size (lo.map fun y=>(ev e y).getD undef) (hi.map fun y=>(ev e y).getD undef) none).run P w = .ok (l,h,s.size) w)
  (tA:(∀y,lo=some y→(ev e y).isSome)∧(∀y,hi=some y→(ev e y).isSome))
  (hh:GX P ops Q S n p (e.put dst (.string (s.extract l h))) w):GO P ops Q S n k i ⟨dst, .slice t x lo hi none,ty,pos,an,g⟩ p e w:=by
 refine GO.val (fX hk) hw hd (fun ac ha w=>?_) hh;have hm:∀(y:Option Operand),(∀z,y=some z→(ev e z).isSome)→y.map ac.eval=y.map fun y=>(ev e y).getD undef:=by
  intro y hy;cases y with
  |none=>rfl
  |some z=>
   obtain⟨v,hv⟩:=Gq.1 (hy z rfl);simp[bE ha hv,hv]
 simp[execOp,bE ha hx,hm lo tA.1,hm hi tA.2,run_sliceAt_string (w:=w) t _ _ _ _ hu.out,Instr.slice,run_underlying hu.out,hb]
theorem ai3 {t el:TypeId}{sz aT:Nat}(hf:cr P t el sz aT){ob:Option Nat}{a a2:Option Addr}{len cap m c2:Nat}{cs news:List Value}(hO:aH w el sz ob a len cap cs)(hN:bN w a2 news)(hnl:news.length=m*sz)(h1:∀u∈news,u.oneCell'=true)
  (hb:(len+m)*aT≤140737488355328) (hm:len+m≤140737488355328) (hz:0<sz) :
  ∃cQ a' c' w',(Builtin.append_ #[t,t] ty #[.slice a len cap, .slice a2 m c2]).run P w = .ok (.slice a' (len+m) c') w'∧aH w' el sz cQ a' (len+m) c' (cs++news)∧Mod (fun k=>some k=ob) w w'∧(∀x,cQ=some x→ob=some x∨w.heap.size≤x)∧(∀x,a'=some x→cQ=some x.block∨(a=some x∧cQ=ob)):=by
 obtain⟨hu,ii,z,hi,kf,hs,mF,iR⟩:=hf.facts;subst hs;subst mF;have zz:len+m≤maxLen:=by unfold maxLen;omega
 have Nc:((len+m:Nat):Int)≤9223372036854775807:=by omega
 -- nothing comes
 by_cases p8:m=0
 ·subst p8;have BU:news=[]:=gu (by simpa using hnl);subst BU;refine⟨ob,a,cap,w,?_,by simpa using hO,Mod.refl w,fun x hx => .inl hx,fun x hx => .inr ⟨hx,rfl⟩⟩;have hle:len≤cap:=by
   obtain⟨_,⟨_,h,_,_⟩|⟨b,_,rfl,hl,h|⟨g,c,cur,hv,_,hg,hle,_⟩⟩⟩:=hO
   ·omega
   ·cases h.1
   ·simp only[Value.slice.injEq] at hv;omega
  have xX:(Builtin.firstCells ii.size 0 (.slice a2 0 c2)).run P w = .ok #[] w:=by
   cases a2 with
   |none=>simp[Builtin.firstCells]
   |some x=>simpa using run_firstCells_some (P:=P) w ii.size 0 x 0 c2 [] (by simp) (by simp)
  cases a with
  |none=>simp[Builtin.append_,run_underlying hu,Go.sizeOf,typeInfo,hi,Builtin.lenOf,hle,xX]
  |some x=>simp[Builtin.append_,run_underlying hu,Go.sizeOf,typeInfo,hi,Builtin.lenOf,hle,xX,storeCells]
 ·have kS:0<m:=by omega
  have zX:0<news.length:=by rw[hnl];exact Nat.mul_pos kS hz
  obtain⟨b2,o2,rfl,vX⟩:=hN.sC zX;have oo:∀j u,news[j]?=some u→w.cell? ((⟨b2,o2,none⟩:Addr).add j)=some u:=fun j u hu=>by rw[iY];exact vX j u hu
  obtain⟨hl,⟨rfl,rfl,ep,h0⟩|⟨b,rfl,rfl,iy⟩⟩:=hO
  ·-- it is full: it is copied
   have fresh:∀(sD c':Nat),(w.drew.alloc (.cells (cs.toArray++news.toArray++Builtin.zeroCells z.cells (grownCap w (cap+m) sD el - (cap+m))) el)).ownsRow 0 el ii.size (.slice (some ⟨w.heap.size,0,none⟩) (cap+m) (grownCap w (cap+m) sD el)) (cap+m) (cs++news):=by
    intro sD _;have kQ:=grownCap_ge w (cap+m) sD el;have p5:grownCap w (cap+m) sD el≤maxLen:=grownCap_le_maxLen w (cap+m) sD el zz;have hlen:(cs++news).length=(cap+m)*ii.size:=by rw[bH,hl,hnl,jm]
    refine⟨hlen, .inr ⟨w.heap.size,_,_,rfl,bh _,heap_alloc_new w.drew _,kQ,p5,?_,?_⟩⟩
    ·simp only[Array.size_append,xu,size_zeroCells,iR,hl,hnl,←jm];congr 1;omega
    ·simp only[Array.toList_append,cS];rw[←cS,←hlen];exact vx
   have wq:∀o,Mod (fun k=>some k=none) w (w.drew.alloc o):=fun o=>Ext.mod ((Ext.drew w).trans (Ext.alloc w.drew o))
   match a,ep,h0 with
   |none,ep,h0=>
    have H8:=h0 rfl;subst H8;have uB:cs=[]:=ep;subst uB;have hr:=run_append_nil (P:=P) w t ty el ii z hu hi kf ⟨b2,o2,none⟩ m c2 news hnl oo kS ah (by simp at hb;omega);have SB:=fresh 0 0;simp only[dz,kC,Array.empty_append] at SB ⊢;exact⟨some w.heap.size,_,_,_,hr,aH.new SB,wq _,fun x hx=>by cases hx;exact .inr (aY _),fun x hx=>by cases hx;exact .inl rfl⟩
   |some ⟨b1,o1,none⟩,ep,h0=>
    have hr:=run_append_grow (P:=P) w t ty el ii z hu hi kf ⟨b1,o1,none⟩ cap cap cs hl (fun j u hu=>by rw[iY];exact ep j u hu) ⟨b2,o2,none⟩ m c2 news hnl oo ah Nc (growslice_fits ah hb);exact⟨some w.heap.size,_,_,_,hr,aH.new (fresh cap 0),wq _,fun x hx=>by cases hx;exact .inr (aY _),fun x hx=>by cases hx;exact .inl rfl⟩
   |some ⟨b1,o1,some s1⟩,ep,h0=>
    have uB:cs=[]:=ep;subst uB;have hr:=run_append_grow (P:=P) w t ty el ii z hu hi kf ⟨b1,o1,some s1⟩ cap cap [] hl (fun j u hu=>by simp at hu) ⟨b2,o2,none⟩ m c2 news hnl oo ah Nc (growslice_fits ah hb);exact⟨some w.heap.size,_,_,_,hr,aH.new (fresh cap 0),wq _,fun x hx=>by cases hx;exact .inr (aY _),fun x hx=>by cases hx;exact .inl rfl⟩
  ·-- it is yW anc own
   obtain⟨v',w',hr,adU,hgr,_⟩:=run_append_own (P:=P) w 0 t ty el ii z ii.size ii.bytes hu hi kf rfl rfl iR hz (.slice (some ⟨b,0,none⟩) len cap) len cs iy ⟨b2,o2,none⟩ m c2 news hnl oo h1 zz hb (bh _);have hv:∃b' c',v' = .slice (some ⟨b',0,none⟩) (len+m) c'∧(b'=b∨w.heap.size≤b'):=by
    obtain⟨_,h|⟨g,c,cur,h,_,hg,_,_,uB,rf⟩⟩:=iy
    ·cases h.1
    ·cases h
     by_cases yc:len+m≤cap
     ·have wy:=run_append_room (P:=P) w t ty el ii hu hi b len cap cur hg ⟨b2,o2,none⟩ m c2 news hnl oo h1 yc (by rw[hnl,uB,←jm];exact y4 _ yc);rw[hr] at wy;cases wy;exact⟨_,_,rfl, .inl rfl⟩
     ·have wy:=run_append_grow (P:=P) w t ty el ii z hu hi kf ⟨b,0,none⟩ len cap cs hl (fun j u hu=>by
       rw[iY,cell_of_row w _ _ cur el _ hg];rw[←rf,vy] at hu;split at hu
       ·simpa using hu
       ·cases hu) ⟨b2,o2,none⟩ m c2 news hnl oo ah Nc (growslice_fits ah hb)
      rw[hr] at wy;cases wy;exact⟨_,_,rfl, .inr (aY _)⟩
   obtain⟨b',c',rfl,uz⟩:=hv;refine⟨some b',_,c',w',hr,aH.new adU,(Mod.OB hgr).weaken fun k _ h=>by simpa[Value.ownBlock] using h,fun x hx=>?_,fun x hx=>by cases hx;exact .inl rfl⟩;cases hx
   rcases uz with rfl|h
   ·exact .inl rfl
   ·exact .inr h
theorem GO.append [Fr]{x y:Operand}{t el:TypeId}{sz aT:Nat}[hf:cr P t el sz aT]{ob:Option Nat}{a a2:Option Addr}{len cap m c2:Nat}{cs news:List Value}(hO:aH w el sz ob a len cap cs)(hN:bN w a2 news)(hnl:news.length=m*sz)(h1:∀u∈news,u.oneCell'=true)
  (hb:(len+m)*aT≤140737488355328) (hm:len+m≤140737488355328) (hz:Nat.blt 0 sz=true) (hw:aI ops e ⟨dst, .call ⟨.builtin .append,#[x,y],#[t,t]⟩,ty,pos,an,g⟩=some true) (hx:ev e x=some (.slice a len cap)) (hy:ev e y=some (.slice a2 m c2)) (hd:fits n dst=true)
  (h:∀cQ a' c' w',aH w' el sz cQ a' (len+m) c' (cs++news)→Mod (fun k=>some k=ob) w w'→(∀x,cQ=some x→ob=some x∨w.heap.size≤x)→(∀x,a'=some x→cQ=some x.block∨(a=some x∧cQ=ob)) →
    (gS ops i=false→S w→S w')∧GX P ops Q S n p (e.put dst (.slice a' (len+m) c')) w'):GO P ops Q S n .aw i ⟨dst, .call ⟨.builtin .append,#[x,y],#[t,t]⟩,ty,pos,an,g⟩ p e w:=by
 have lZ:0<sz:=by have:=hz;simp[Nat.blt] at this;omega
 obtain⟨cQ,a',c',w',hr,iy,wq,fD,cj⟩:=ai3 (P:=P) (ty:=ty) hf hO hN hnl h1 hb hm lZ (c2:=c2);refine GO.run (R:=fun u w1=>u = .slice a' (len+m) c'∧w1=w') hw hd (fun ac ha=>⟨_,_,w',?_, .inl rfl,rfl,rfl⟩) (by rintro _ w1 ⟨rfl,Nt⟩;rw[Nt];exact h cQ a' c' w' iy wq fD cj);simp[execOp,resolve,invoke,builtin,bE ha hx,bE ha hy,hr]
end
def aj (P:Program)(f:FuncId)(args:Array Value)(w:World)(R:Value→World→Prop):Prop:=
 Calls P f args w fun en w'=>∃v,en = .returned v∧R v w'
theorem aj.mono {P:Program}{f:FuncId}{args:Array Value}{w:World}{R R':Value→World→Prop}(h:aj P f args w R)(hr:∀v w',R v w'→R' v w'):aj P f args w R':=
 Calls.mono h fun _ _ ⟨v,he,hR⟩=>⟨v,he,hr v _ hR⟩
def Qj (P:Program)(f:FuncId):Bool:=
 match P.funcs[f]? with
 |some fn=>!(fn.name == "runtime.NumGoroutine")&&fn.body.isSome
 |none=>false
class ax (P:Program) (f:FuncId):Prop where
 out:Qj P f=true
theorem Xa {P:Program}{f:FuncId}(h:ax P f)(args:Array Value)(w:World):(callFunc f args).run P w = .ok (.enter f args) w:=by
 have:=h.out;unfold Qj at this;split at this
 ·rename_i fn hf
  simp only[qA,Bool.not_eq_true'] at this;obtain⟨h1,h2⟩:=this;have h3:fn.body.isNone=false:=by cases hb:fn.body<;>simp_all
  simp only[callFunc,Sem.run_bind,run_program,Result.andThen_ok,hf,h1,h3];rfl
 ·cases this
section
variable {P:Program}{ops:Array Oper}{Q:Exit→Act→World→Prop}{S:World→Prop}{n:Nat}
variable {i:Nat}{p:b6}{e:Env}{w:World}{k:Kd}{dst:Option Tmp}{ty:TypeId}{pos:String}{an:Array Edge}{g:Option (Nat×Bool)}
theorem GO.rL [Fr]{x:Operand}{args:Array Operand}{ts:Array TypeId}{f:FuncId}{fs cs:Array Value}{vs:List Value}{R:Value→World→Prop}[hf:ax P f](hw:aI ops e ⟨dst, .call ⟨.value x,args,ts⟩,ty,pos,an,g⟩=some true)(hx:ev e x=some (.func (.func f) fs cs))(hy:kO e args.toList=some vs)(hd:fits n dst=true)
  {al:List Value}(cj:fs.toList++vs++cs.toList=al) (hc:aj P f al.toArray w R)
  (h:∀v w',R v w'→(gS ops i=false→S w→S w')∧GX P ops Q S n p (e.put dst v) w'):GO P ops Q S n .aw i ⟨dst, .call ⟨.value x,args,ts⟩,ty,pos,an,g⟩ p e w:=by
 refine GO.act (R:=R) hw hd (fun a ha K hK=>?_) h;have gA:(fs++vs.toArray++cs)=al.toArray:=by
  subst cj;apply Array.toList_inj.1;simp
 have ad3:(execOp a.eval ⟨dst, .call ⟨.value x,args,ts⟩,ty,pos,an,g⟩).run P w = .ok (.enter f al.toArray) w:=by
  simp only[execOp,resolve,Sem.run_bind,Deferred.ofValue,bE ha hx,Hs ha hy,Sem.run_pure,Result.andThen_ok,invoke,Xa hf,gA]
 refine⟨fun f _=>trivial,?_⟩;rw[J7 ad3 (by simp),Oper.uponIn_enter];refine⟨fun h=>(by cases h),Fr.calls.2 (Calls.mono hc fun en w' ⟨v,he,hR⟩=>?_)⟩;subst he;exact hK v w' hR
theorem CU {P:Program}{b:Frame}{a:Act}{k:List Item}{cs:List Frame}{w:World}{c:Code}:step P (lone (b.atR a (.code (.scope c)::k)) cs w) = .next (lone (b.atR a (.code c :: .inScope c::k)) cs w):=
 step_lone_go (by simp[stepG,stepG.exec,Frame.atR])
theorem ald {P:Program}{b:Frame}{a:Act}{k:List Item}{cs:List Frame}{w:World}{c:Code}:step P (lone (b.atR a (.inScope c::k)) cs w) = .next (lone (b.atR a k) cs w):=
 step_lone_go (by simp[stepG,stepG.exec,Frame.atR])
theorem al9 {F:Fence}{m:Nat}{P:Program}{Q:Exit→Act→World→Prop}{a:Act}{w:World}{c:Code}(h:c.wpIn F m P (Exit.noGoto Q) a w):(Code.scope c).wpIn F m P Q a w:=by
 intro b k cs TA hb hr;have h0:(lone (b.atR a (.code (.scope c)::k)) cs w).fenced P F:=fenced_calm hb hr rfl;obtain⟨e,Dj,Gm,hq,xS⟩:=h b (.inScope c::k) cs TA hb hr;cases e with
 |normal=>exact⟨.normal,Dj,Gm,hq, .head h0 CU (StepsIn.trans xS (.one (fenced_calm hb hr rfl) ald))⟩
 |exit id=>
  have hx:exitTo id (.inScope c::k)=exitTo id k:=by simp[exitTo]
  exact⟨_,Dj,Gm,hq,fun k' hk => .head h0 CU (xS.1 k' (by rw[hx];exact hk)),
   fun EU hk=>let⟨k₁,h1,h2⟩:=xS.2 EU (by rw[hx];exact hk);⟨k₁,h1, .head h0 CU h2⟩⟩
 |goto l=>exact hq.elim
 |ret=>exact⟨_,Dj,Gm,hq, .of_steps (.one h0 CU) xS⟩
 |panic ch=>exact⟨_,Dj,Gm,hq, .of_steps (.one h0 CU) xS⟩
 |outgrown=>exact⟨_,Dj,Gm,hq, .of_steps (.one h0 CU) xS⟩
def GC [Fr](P:Program)(c:Code)(Q:Exit→Act→World→Prop)(n:Nat)(e:Env)(w:World):Prop:=∀a,fJ a e n→c.wpIn Fr.F 0 P Q a w
def GQ [Fr](Q:Exit→Act→World→Prop)(x:Exit)(n:Nat)(e:Env)(w:World):Prop:=∀a,fJ a e n→Q x a w
def Go [Fr](P:Program)(c:Code)(Q:Exit→Act→World→Prop):Exit→Act→World→Prop:=Exit.then (fun a w=>c.wpIn Fr.F 0 P Q a w) Q
theorem GC.sub [Fr]{c:Code}{e':Env}(hs:Sub e' e)(h:GC P c Q n e' w):GC P c Q n e w:=fun a ha=>h a (ha.sub hs)
theorem GC.pick [Fr]{c:Code}{e':Env}(l:List Nat)(hs:vh e l=some e')(h:GC P c Q n e' w):GC P c Q n e w:=h.sub (cR hs)
theorem GQ.sub [Fr]{x:Exit}{e':Env}(hs:Sub e' e)(h:GQ Q x n e' w):GQ Q x n e w:=fun a ha=>h a (ha.sub hs)
theorem GQ.pick [Fr]{x:Exit}{e':Env}(l:List Nat)(hs:vh e l=some e')(h:GQ Q x n e' w):GQ Q x n e w:=h.sub (cR hs)
theorem GC.seq [Fr]{x y:Code}(h:GC P x (Go P y Q) n e w):GC P (.seq x y) Q n e w:=fun a ha=>wpIn_seq (h a ha)
theorem GC.skip [Fr](h:GQ Q .normal n e w):GC P .skip Q n e w:=fun a ha=>wpIn_skip (h a ha)
theorem GC.ret [Fr](h:GQ Q .ret n e w):GC P .ret Q n e w:=fun a ha=>wpIn_ret (h a ha)
theorem GC.exit [Fr]{id:Nat}(h:GQ Q (.exit id) n e w):GC P (.exit id) Q n e w:=fun a ha=>wpIn_exit (h a ha)
theorem GC.block [Fr]{id:Nat}{c:Code}(h:GC P c (Exit.inBlock id Q) n e w):GC P (.block id c) Q n e w:=fun a ha=>wpIn_block (h a ha)
theorem GC.cond [Fr]{c:Operand}{x y:Code}{b:Bool}(hc:ev e c=some (.bool b))(h1:b=true→GC P x Q n e w)(h2:b=false→GC P y Q n e w):GC P (.cond c x y) Q n e w:=
 fun a ha=>wpIn_cond_split (bE ha hc) (fun hb=>h1 hb a ha) (fun hb=>h2 hb a ha)
theorem GQ.Br [Fr]{c:Code}(h:GC P c Q n e w):GQ (Go P c Q) .normal n e w:=h
theorem GQ.Ru [Fr]{c:Code}{id:Nat}(h:GQ Q (.exit id) n e w):GQ (Go P c Q) (.exit id) n e w:=h
theorem GQ.Rv [Fr]{c:Code}(h:GQ Q .ret n e w):GQ (Go P c Q) .ret n e w:=h
theorem GQ.Ua [Fr]{id:Nat}(h:GQ Q .normal n e w):GQ (Exit.inBlock id Q) .normal n e w:=h
theorem GQ.Uc [Fr]{id:Nat}(h:GQ Q .ret n e w):GQ (Exit.inBlock id Q) .ret n e w:=h
theorem GQ.T8 [Fr]{id:Nat}(h:GQ Q .normal n e w):GQ (Exit.inBlock id Q) (.exit id) n e w:=fun a ha=>by simpa[Exit.inBlock] using h a ha
theorem GQ.T9 [Fr]{id Jd:Nat}(aP:Nat.beq Jd id=false)(h:GQ Q (.exit Jd) n e w):GQ (Exit.inBlock id Q) (.exit Jd) n e w:=fun a ha=>by
 have:Jd≠id:=Nat.ne_of_beq_eq_false aP;simpa[Exit.inBlock,this] using h a ha
def yM:b6→Option (List Nat)
 |.done=>some []
 |.pure i p | .aw i p=>(yM p).map (i :: ·)
 |_=>none
theorem Px [Fr]:∀(p:b6) (l:List Nat) (a:Act) (w:World),yM p=some l→sN P ops Q S p a w→wpOpsIn Fr.F 0 P ops Q l a w
 |.done,l,a,w,hl,h=>by simp[yM] at hl;subst hl;exact h
 |.pure i p,l,a,w,hl,h=>by
  simp only[yM,y5] at hl;obtain⟨l',hl',rfl⟩:=hl;obtain⟨o,v,ho,hy,hp⟩:=h;rw[wpOpsIn_cons];exact YieldsIf.Gl ho hy trivial (Px p l' _ w hl' hp)
 |.aw i p,l,a,w,hl,h=>by
  simp only[yM,y5] at hl;obtain⟨l',hl',rfl⟩:=hl;rw[wpOpsIn_cons];exact wpOpIn_mono (fun a' w' hh=>Px p l' a' w' hl' hh.2) h
 |.read ..,_,_,_,hl,_=>by cases hl
 |.alt ..,_,_,_,hl,_=>by cases hl
theorem GC.region [Fr]{id:Nat}{ops:Array Oper}(pl:b6)(hp:yM pl=some (List.range ops.size))(h:GX P ops Q (fun _=>True) n pl e w):GC P (.region id ops false) Q n e w:=
 fun a ha=>wpIn_region (Px pl _ a w hp (h a ha))
theorem GX.done [Fr](h:GQ Q .normal n e w):GX P ops Q S n .done e w:=h
theorem GX.Q0 [Fr](h:GQ Q .normal n e w):GX P ops (NoPanic Q) S n .done e w:=h
def y7 [Fr]{X:Type}(E:X→Env)(J:X→World→Prop)(μ:X→Nat)(n:Nat)(m:Nat)(a:Act)(w:World):Prop:=∃x,fJ a (E x) n∧J x w∧μ x<m
theorem GC.loop [Fr]{X:Type}{c:Code}(E:X→Env)(J:X→World→Prop)(μ:X→Nat)(x0:X)(h0:Sub (E x0) e)(hJ:J x0 w)
  (round:∀x w,J x w→GC P c (Exit.then (y7 E J μ n (μ x)) Q) n (E x) w):GC P (.loop c) Q n e w:=by
 intro a ha;have key:∀(m:Nat) (a:Act) (w:World),(∃x,μ x<m∧fJ a (E x) n∧J x w)→Code.roundsIn Fr.F 0 P c Q m a w:=by
  intro m
  induction m with
  |zero=>rintro a w ⟨x,hx,_⟩;omega
  |succ m ih=>
   rintro a w ⟨x,hx,hk,hj⟩;rw[roundsIn_succ];refine Code.wpIn_mono (fun e a w hq=>?_) (round x w hj a hk);cases e with
   |normal=>obtain⟨x',h1,h2,h3⟩:=hq;exact ih a w ⟨x',by omega,h1,h2⟩
   |_=>exact hq
 exact wpIn_loop_rounds (μ x0+1) (key _ a w ⟨x0,Nat.lt_succ_self _,ha.sub h0,hJ⟩)
theorem GQ.again [Fr]{X:Type}{E:X→Env}{J:X→World→Prop}{μ:X→Nat}{m:Nat}(x:X)(hs:Sub (E x) e)(hJ:J x w)(hm:μ x<m):GQ (Exit.then (y7 E J μ n m) Q) .normal n e w:=fun _ ha=>⟨x,ha.sub hs,hJ,hm⟩
theorem GQ.VK [Fr]{X:Type}{E:X→Env}{J:X→World→Prop}{μ:X→Nat}{m id:Nat}(h:GQ Q (.exit id) n e w):GQ (Exit.then (y7 E J μ n m) Q) (.exit id) n e w:=h
theorem GQ.VL [Fr]{X:Type}{E:X→Env}{J:X→World→Prop}{μ:X→Nat}{m:Nat}(h:GQ Q .ret n e w):GQ (Exit.then (y7 E J μ n m) Q) .ret n e w:=h
theorem GC.cut [Fr]{X:Type}{c:Code}(E:X→Env)(J:X→World→Prop)(h1:GC P c (Exit.then (fun a w=>∃x,fJ a (E x) n∧J x w) Q) n e w)(h2:∀x w,J x w→GQ Q .normal n (E x) w):GC P c Q n e w:=by
 intro a ha;refine Code.wpIn_mono (fun e a w hq=>?_) (h1 a ha);cases e with
 |normal=>obtain⟨x,hk,hj⟩:=hq;exact h2 x w hj a hk
 |_=>exact hq
theorem GQ.dm [Fr]{X:Type}{E:X→Env}{J:X→World→Prop}(x:X)(hs:Sub (E x) e)(hJ:J x w):GQ (Exit.then (fun a w=>∃x,fJ a (E x) n∧J x w) Q) .normal n e w:=fun _ ha=>⟨x,ha.sub hs,hJ⟩
theorem GQ.QX [Fr]{X:Type}{E:X→Env}{J:X→World→Prop}{id:Nat}(h:GQ Q (.exit id) n e w):GQ (Exit.then (fun a w=>∃x,fJ a (E x) n∧J x w) Q) (.exit id) n e w:=h
theorem GQ.QY [Fr]{X:Type}{E:X→Env}{J:X→World→Prop}(h:GQ Q .ret n e w):GQ (Exit.then (fun a w=>∃x,fJ a (E x) n∧J x w) Q) .ret n e w:=h
def Dh (t:Nat):List Value→Env
 | []=>[]
 |v::r=>(t,v)::Dh (t+1) r
theorem VJ:∀(l:List Value) (t s:Nat) (v:Value),look s (Dh t l)=some v→t≤s∧l[s - t]?=some v
 | [],t,s,v,h=>by cases h
 |u::r,t,s,v,h=>by
  simp only[Dh,look] at h;cases hb:Nat.beq t s with
  |true=>
   have:=Nat.eq_of_beq_eq_true hb;rw[hb] at h;subst this;simp at h;simp[h]
  |false=>
   have aP:=Nat.ne_of_beq_eq_false hb;rw[hb] at h;obtain⟨h1,h2⟩:=VJ r (t+1) s v h;refine⟨by omega,?_⟩;have:s - t=(s - (t+1))+1:=by omega
   rw[this,List.getElem?_cons_succ];exact h2
theorem aj.enter {f:FuncId}{fn:Func}{c:Code}{vs:List Value}{R:Value→World→Prop}(hf:P.funcs[f]?=some fn)(hb:fn.body=some c)(hn:fn.ntmps=n)(hle:Nat.ble vs.length n=true)
  (h:GC P c (bodyPost P fn (fun en w'=>∃v,en = .returned v∧R v w')) n (Dh 0 vs) w):aj P f vs.toArray w R:=by
 have S4:=vq hle;have hk:fJ { tmps:=vs.toArray++Array.replicate (fn.ntmps - vs.toArray.size) undef,defers:=[]} (Dh 0 vs) n:=by
  refine⟨rfl,by simp[hn];omega,fun t v ht=>?_⟩;obtain⟨_,h2⟩:=VJ vs 0 t v ht;have aN:t<vs.length:=(aV.1 (by simpa using h2)).1;rw[Array.getElem?_append_left (by simpa using aN)];simpa using h2
 exact calls_of_wp hf hb ((wpIn_wide (n:=0)).1 (h _ hk))
theorem GQ.aiH {fn:Func}{t:Tmp}{v:Value}{R:Value→World→Prop}{x:Exit}(hx:x = .ret∨x = .normal)(hr:fn.results=#[.tmp t])(hl:look t e=some v)(hR:R v w):GQ (bodyPost P fn (fun en w'=>∃v,en = .returned v∧R v w')) x n e w:=by
 intro a ha;have hs:=ha.slot t v hl;have:(results fn a.tmps).run P w = .ok v w:=by rw[results_tmp hr];simp[hs]
 rcases hx with rfl|rfl<;>exact⟨ha.defers,v,this,v,rfl,hR⟩
theorem GQ.W1 {fn:Func}{R:Value→World→Prop}{x:Exit}(hx:x = .ret∨x = .normal)(hr:fn.results=#[])(hR:R (.tuple #[]) w):GQ (bodyPost P fn (fun en w'=>∃v,en = .returned v∧R v w')) x n e w:=by
 intro a ha;have:(results fn a.tmps).run P w = .ok (.tuple #[]) w:=results_none hr _ _ _
 rcases hx with rfl|rfl<;>exact⟨ha.defers,_,this,_,rfl,hR⟩
theorem GQ.aiI {fn:Func}{t u:Tmp}{v v':Value}{R:Value→World→Prop}{x:Exit}(hx:x = .ret∨x = .normal)(hr:fn.results=#[.tmp t, .tmp u])(hl:look t e=some v)(hl':look u e=some v')(hR:R (.tuple #[v,v']) w):GQ (bodyPost P fn (fun en w'=>∃v,en = .returned v∧R v w')) x n e w:=by
 intro a ha;have:(results fn a.tmps).run P w = .ok (.tuple #[v,v']) w:=by rw[results_tmp2 hr];simp[ha.slot t v hl,ha.slot u v' hl']
 rcases hx with rfl|rfl<;>exact⟨ha.defers,_,this,_,rfl,hR⟩
theorem GQ.aiJ {fn:Func}{t u s:Tmp}{v v' tU:Value}{R:Value→World→Prop}{x:Exit}(hx:x = .ret∨x = .normal)(hr:fn.results=#[.tmp t, .tmp u, .tmp s])(hl:look t e=some v)(hl':look u e=some v')(MM:look s e=some tU)(hR:R (.tuple #[v,v',tU]) w):GQ (bodyPost P fn (fun en w'=>∃v,en = .returned v∧R v w')) x n e w:=by
 intro a ha;have:(results fn a.tmps).run P w = .ok (.tuple #[v,v',tU]) w:=by simp[results,hr,ha.slot t v hl,ha.slot u v' hl',ha.slot s tU MM]
 rcases hx with rfl|rfl<;>exact⟨ha.defers,_,this,_,rfl,hR⟩
theorem OZ {t:TypeId}{sz:Nat}(hf:aC P t true sz){b o:Nat}{l:List Value}(h:At w b o l)(hl:l.length=sz):(loadVar t ⟨b,o,none⟩).run P w = .ok (.agg l.toArray) w:=by
 have:=O0 (P:=P) hf h hl;simpa[Instr.loadAt,Instr.sureAddr] using this
theorem GQ.aiK {fn:Func}{p:Tmp}{t:TypeId}{sz b o:Nat}{l:List Value}{R:Value→World→Prop}{x:Exit}[hf:aC P t true sz](hx:x = .ret∨x = .normal)(hr:fn.results=#[.cell p t])(hp:look p e=some (.pointer (some ⟨b,o,none⟩)))(hA:At w b o l)(hl:l.length=sz)(hR:R (.agg l.toArray) w):GQ (bodyPost P fn (fun en w'=>∃v,en = .returned v∧R v w')) x n e w:=by
 intro a ha;have:(results fn a.tmps).run P w = .ok (.agg l.toArray) w:=by simp[results,hr,ha.slot p _ hp,asAddr,OZ hf hA hl]
 rcases hx with rfl|rfl<;>exact⟨ha.defers,_,this,_,rfl,hR⟩
theorem GQ.aiL {fn:Func}{p u:Tmp}{t:TypeId}{sz b o:Nat}{l:List Value}{v':Value}{R:Value→World→Prop}{x:Exit}[hf:aC P t true sz](hx:x = .ret∨x = .normal)(hr:fn.results=#[.cell p t, .tmp u])(hp:look p e=some (.pointer (some ⟨b,o,none⟩)))(hu:look u e=some v')(hA:At w b o l)(hl:l.length=sz)(hR:R (.tuple #[.agg l.toArray,v']) w):GQ (bodyPost P fn (fun en w'=>∃v,en = .returned v∧R v w')) x n e w:=by
 intro a ha;have:(results fn a.tmps).run P w = .ok (.tuple #[.agg l.toArray,v']) w:=by simp[results,hr,ha.slot p _ hp,ha.slot u _ hu,asAddr,OZ hf hA hl]
 rcases hx with rfl|rfl<;>exact⟨ha.defers,_,this,_,rfl,hR⟩
theorem GQ.aiM {fn:Func}{p u s:Tmp}{t:TypeId}{sz b o:Nat}{l:List Value}{v' tU:Value}{R:Value→World→Prop}{x:Exit}[hf:aC P t true sz](hx:x = .ret∨x = .normal)(hr:fn.results=#[.cell p t, .tmp u, .tmp s])(hp:look p e=some (.pointer (some ⟨b,o,none⟩)))(hu:look u e=some v')(hs:look s e=some tU)(hA:At w b o l)(hl:l.length=sz)(hR:R (.tuple #[.agg l.toArray,v',tU]) w):GQ (bodyPost P fn (fun en w'=>∃v,en = .returned v∧R v w')) x n e w:=by
 intro a ha;have:(results fn a.tmps).run P w = .ok (.tuple #[.agg l.toArray,v',tU]) w:=by simp[results,hr,ha.slot p _ hp,ha.slot u _ hu,ha.slot s _ hs,asAddr,OZ hf hA hl]
 rcases hx with rfl|rfl<;>exact⟨ha.defers,_,this,_,rfl,hR⟩
end
theorem aj.calls {P:Program}{f:FuncId}{args:Array Value}{w:World}{R:Value→World→Prop}(h:aj P f args w R):Calls P f args w fun en w'=>∃v,en = .returned v∧R v w':=h
theorem aj.Ay {P:Program}{f:FuncId}{args:Array Value}{w:World}{R:Value→World→Prop}(h:Calls P f args w fun en w'=>∃v,en = .returned v∧R v w'):aj P f args w R:=h
attribute [irreducible] GC GQ aj y7
end Go.Proofs.YtoloaehmppcjoaaGreat.V
