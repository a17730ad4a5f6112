/-
  Parts of the proof. No condition.
-/
import Derived.Test.YtmlpbmgfmnmmmaaGreatW2ax
import Derived.Test.YtmlpbmgfmnmmmaaGreatW2at
set_option linter.unusedVariables false
set_option linter.unusedSimpArgs false
set_option maxRecDepth 8000
set_option maxHeartbeats 8000000
open Go.Proofs.Tryz
namespace Go.Proofs.YtmlpbmgfmnmmmaaGreat.V.M
section
theorem iI.RA {G H:Gr}{k:Bs}{n:Nat}(h:iI G H k n){i:Nat}{x:Nd}(hx:H.list[i]?=some x):G.list[i]?=some x∨i=n:=by
 rcases h.list with⟨h1,_⟩|⟨_,h2,h1⟩
 ·rw[h1] at hx;exact .inl hx
 ·rw[h1] at hx
  by_cases hi:i<G.list.length
  ·rw[gr hi] at hx;exact .inl hx
  ·have h3:=(aV.1 hx).1;simp only[bJ,dR,tF] at h3;exact .inr ah
theorem Dd.inv {G H:Gr}{p c:Bs}(h:Dd G H p c)(hi:js G)(pV:bI p=true)(pU:bI c=true)(bG:¬eV G p c)(sW:p≠c)(hlen:G.list.length+dK G p+dK G c≤G.cL)(qD:G.cp≠G.dd)(iB:∀x∈H.list,x.mark≤H.cT):js H:=by
 obtain⟨G0,H1,H2,a,b,hs,_,iL,fD,eR,⟨xa,xb,lM,fM,hH⟩,_⟩:=h.list;have n0:=hs.nodes hi.nodes;have n1:=iL.nodes pV n0;have n2:=fD.nodes pU n1;have um:xa.key=p:=by
  obtain⟨x1,q1,q2⟩:=iL.at;have q3:=fD.nV q1;rw[lM] at q3;cases q3;exact q2
 have mq:xb.key=c:=by
  obtain⟨y1,r1,r2⟩:=fD.at;rw[fM] at r1;cases r1;exact r2
 have adC:b∉xa.down:=fun hb=>bG (hs.sI.1 ((iL.sI n0.down).1 ((fD.sI n1.down).1 ⟨a,b,xa,xb,lM,um,hb,fM,mq⟩)))
 have n3:=alR lM fM eR hH adC n2;have rH:=iL.length;have iA:=fD.length;have S0:=hs.length;have Ea:=iL.dK (k':=c) (fun e=>sW e.symm);have e1:dK G0 p=dK G p:=by simp only[dK,hs.keys]
 have e2:dK G0 c=dK G c:=by simp only[dK,hs.keys]
 have vY:H.list.length=H2.list.length:=by rw[hH];simp
 have Tg:=h.cL;have Tf:=h.dd;have adm:=h.cp;have fK:=hi.eM.mx;have sP:H.list.length≤H.cL:=by omega
 have aeb:(H2.list.set a { xa with down:=xa.down++[b]})[b]?=some xb:=by rw[dH eR];exact fM
 have ac6:jJ H=H.cp:=by
  have s1:=Ka (y:={ xb with up:=xb.up++[a]}) (·.down.length) aeb;have s2:=Ka (y:={ xa with down:=xa.down++[b]}) (·.down.length) lM;have s3:=fD.jJ;have s4:=iL.jJ;have s5:=hs.jJ;have s6:=hi.zu;have s7:=vG H2;rw[vG,hH,adm];simp only[bJ,dR,tF] at s1 s2;omega
 refine⟨⟨h.ok.1,by omega,n3.down,fun j x hx=>?_⟩,h.ok.2,n3.nA,n3.oW,n3.nM,n3.lX,sP,ac6,⟨?_,?_⟩,fun x hx=>?_,n3.keys,iB⟩
 ·have hm:=bF hx;have d1:=Cz (n3.nM x hm) (n3.down j x hx);have d2:=eN (n3.keys x hm);omega
 ·have:=hi.cp;omega
 ·have:=hi.cp;omega
 ·obtain⟨j,hj⟩:=ej hx;rw[hH,O4 (aV.1 lM).1 (aV.1 fM).1 eR] at hj
  by_cases q1:j=b
  ·rw[if_pos q1] at hj;cases hj;exact .inr (by simp)
  ·rw[if_neg q1] at hj
   by_cases q2:j=a
   ·rw[if_pos q2] at hj;cases hj;exact .inl (by simp)
   ·rw[if_neg q2] at hj
    rcases fD.RA hj with hj|hj
    ·rcases iL.RA hj with hj|hj
     ·obtain⟨y,r1,_,r2,r3⟩:=hs.get hj;rw[r2,r3];exact hi.used y (bF r1)
     ·exact absurd hj q2
    ·exact absurd hj q1
theorem dp.inv {G H:Gr}(h:dp G H)(hi:js G)(iB:∀x∈H.list,x.mark≤H.cT):js H:=by
 have n:=h.nodes hi.nodes;have hl:=h.length;have Tg:=h.cL;have Tf:=h.dd;have qD:=h.cp;have he:=h.jJ;refine⟨h.eM hi.eM,by unfold xu;rw[h.cells];exact hi.cells,n.nA,n.oW,n.nM,n.lX,by have:=hi.len;omega,by have:=hi.zu;omega,by have:=hi.cp;omega,fun x hx=>?_,n.keys,iB⟩;obtain⟨j,hj⟩:=ej hx;obtain⟨y,r1,_,r2,r3⟩:=h.get hj;rw[r2,r3];exact hi.used y (bF r1)
theorem tJ.inv {G H:Gr}{p c:Bs}{z:Bool}{e:Int}(h:tJ G H p c z e)(hi:js G)(iB:∀x∈H.list,x.mark≤H.cT):js H:=by
 cases h with
 |bad _ h=>subst h;exact hi
 |has _ _ _ h=>subst h;exact hi
 |He _ _ _ _ h=>exact h.inv hi iB
 |full _ _ _ _ _ _ h=>exact h.inv hi iB
 |new pV pU bG sW _ hl hk h=>exact h.inv hi pV pU bG sW hl hk iB
end
section
attribute [local irreducible] GO GX
theorem Xr (m k:Int)(b:Nat)(w:World)(hB:cD w b [iV k]):aj prog 239 [iV m,ak b].toArray w fun v w'=>v = .bool (decide (m=k))∧w'=w:=by
 refine aj.enter func239 rfl ntmps239 rfl (go ?_);exact⟨rfl,rfl⟩
theorem aev (l:List Nat)(x n c:Nat)(hn:l.length=n)(hl:n<2^40)(a:Option Addr)(b:Nat)(w:World)(hA:bM w a (aD l))(hB:cD w b [iV x]) :
  aj prog 286 [.slice a n c, .func (.func 239) #[] #[ak b]].toArray w fun v w'=>(∃z:Int,v=iV z∧((z = -1∧x∉l)∨∃i:Nat,z=i∧l[i]?=some x∧x∉l.take i))∧w'=w:=by
 subst hn;refine aj.enter func286 rfl ntmps286 rfl (go ?_);refine GC.bP [0,1,7] (fun k:Nat=>[(8, .int .i64 k)]) (fun k w'=>k≤l.length∧x∉l.take k∧w=w') (fun k=>l.length - k) 0 rfl rfl ⟨bh _,by simp,rfl⟩ ?_;rintro k _ ⟨hk,bG,rfl⟩;refine go ?_;refine dj (fun hc=>?_) (fun hc=>?_)<;>refine go ?_
 ·have aP:k<l.length:=by omega
  obtain⟨b',o,e,jM⟩:=uJ hA (show l[k]?=some l[k] by simp);subst e;refine GX.next rfl (GO.indexAddr rfl rfl rfl rfl ah ah rfl ?_);refine GX.lj (jM (k:Int) ah) rfl rfl rfl rfl (go ?_);refine GX.da (Xr (l[k]:Nat) x b w hB) rfl rfl rfl rfl rfl rfl (go ?_);refine dj (fun hq=>?_) (fun hq=>?_)<;>refine go ?_
  ·exact⟨⟨_,rfl, .inr ⟨k,rfl,by rw[bO aP];congr 1;omega,bG⟩⟩,rfl⟩
  refine GQ.br (k+1) rfl ⟨aP,?_,rfl⟩ ah;rw[kQ aP];intro h
  rcases cJ.1 h with h|h
  ·exact bG h
  ·simp at h;omega
 have kB:k=l.length:=by omega
 subst kB;rw[j5] at bG;exact⟨⟨_,rfl, .inl ⟨rfl,bG⟩⟩,rfl⟩
end
section
attribute [local irreducible] GX
theorem ajn {P:Program}{w:World}{B o:Nat}{vs:List Value}(hW:Wr w B o vs.length)(h1:∀u∈vs,u.oneCell'=true) :
  (storeCells ⟨B,o,none⟩ vs).run P w = .ok () (w.setCells B o vs)∧l9 w (w.setCells B o vs) B o vs:=by
 obtain⟨c,et,fr,hb,ho,hz⟩:=hW;have h2:=run_storeCells_cells (P:=P) B o vs 0 w (fun j hj=>by
   rw[cell_of_row w B _ c et fr hb];rw[Array.getElem?_eq_getElem ah];rfl)
  (fun j hj=>by
    have:=hz j hj;simp only[World.frozen?,hb,p6];exact this) h1
 refine⟨?_,CN B vs o w c et fr hb ho⟩;simp only[p6] at h2;exact h2
theorem agN {z:Array Value}{sz:Nat}(hz:z.size=sz)(m:Nat):(madeCells z (m*sz)).toList=(List.replicate m z.toList).flatten:=by
 have Cg:z.toList.length=sz:=by simpa using hz
 have kX:((List.replicate m z.toList).flatten).length=m*sz:=by simp[hz]
 apply pb;intro j
 by_cases hj:j<m*sz
 ·have kF:0<sz:=by
   rcases Nat.eq_zero_or_pos sz with h|h
   ·simp[h] at hj
   ·exact h
  have wb:j % sz<z.toList.length:=by rw[Cg];exact fm _ kF
  have h1:(madeCells z (m*sz)).toList[j]?=some (z.toList[j % sz]):=by
   simp only[madeCells,Array.toList_map,gb,Array.toList_range,List.getElem?_range hj,jr];congr 1;rw[hz];have:j % sz<z.size:=by rw[hz];exact fm _ kF
   rw[getElem!_pos z _ this];simp
  rw[h1];have hdiv:j / sz<m:=by rw[Nat.div_lt_iff_lt_mul kF];exact hj
  have hdm:=Nat.div_add_mod j sz;have:j=(j / sz)*z.toList.length+j % sz:=by rw[Cg,Nat.mul_comm];omega
  have MX:∀(zl:List Value) (m q s:Nat),q<m→(hs:s<zl.length)→((List.replicate m zl).flatten)[q*zl.length+s]?=some zl[s]:=by
   intro zl m
   induction m with
   |zero=>intro q s h;omega
   |succ m ih=>
    intro q s hq hs;rw[List.replicate_succ,om];cases q with
    |zero=>rw[vo,dA,gr hs];simp[hs]
    |succ q=>
     rw[ia (by rw[iP];omega)];have:(q+1)*zl.length+s - zl.length=q*zl.length+s:=by rw[iP];omega
     rw[this];exact ih q s ah hs
  have h2:=MX z.toList m (j / sz) (j % sz) hdiv wb;rw[←this] at h2;exact h2.symm
 ·rw[sy (by simp[size_madeCells];omega),sy (by rw[kX];omega)]
section
variable {P:Program}{ops:Array Oper}{Q:Exit→Act→World→Prop}{n:Nat}
variable {i:Nat}{e:Env}{w:World}{ty:TypeId}{pos:String}{an:Array Edge}{g:Option (Nat×Bool)}{dst:Option Tmp}
theorem GX.QB [Fr]{m:Nat}{x:Operand}{t el:TypeId}{aS:Nat}[hf:cj P t el 1 aS]{z:Value}[hz:eQ P el [z]]{b o len cap:Nat}(hW:Wr w b o len)(hl:0<len)(h1:z.oneCell'=true)
  (ho:ops[i]?=some ⟨dst, .call ⟨.builtin .clear,#[x],#[t]⟩,ty,pos,an,g⟩) (hw:aH ops e ⟨dst, .call ⟨.builtin .clear,#[x],#[t]⟩,ty,pos,an,g⟩=some true) (hx:ev e x=some (.slice (some ⟨b,o,none⟩) len cap)) (hd:fits n dst=true)
  (h:∀w',l9 w w' b o (List.replicate len z)→GX P ops Q (fun _=>True) n (aY (i+1) m) (e.put dst (.tuple #[])) w'):GX P ops Q (fun _=>True) n (aY i (m+1)) e w:=by
 refine GX.ax ho (GO.run (R:=fun v w'=>v = .tuple #[]∧l9 w w' b o (List.replicate len z)) hw hd (fun a ha=>?_) (by rintro _ w' ⟨rfl,hp⟩;exact⟨fun _ _=>trivial,h w' hp⟩));obtain⟨hu,ii,zv,hi,jT,am5,mj,iE⟩:=hf.facts;have oS:zv.cells.toList=[z]:=by
  have:=hz.out;unfold xr at this;simpa[hi,jT] using this
 obtain⟨k,rfl⟩:∃k,len=k+1:=⟨len - 1,by omega⟩
 have iB:(Builtin.zeroCells zv.cells (k+1)).toList=List.replicate (k+1) z:=by
  have h3:=agN iE (k+1);have h4:(madeCells zv.cells ((k+1)*1)).toList=(List.replicate (k+1) zv.cells.toList).flatten:=h3;rw[oS] at h4;have h5:∀j:Nat,(List.replicate j [z]).flatten=List.replicate j z:=fun j=>by
   induction j with
   |zero=>rfl
   |succ j ih=>rw[List.replicate_succ,om,ih];rfl
  rw[h5] at h4;rw[←h4];simp[Builtin.zeroCells,madeCells,iE]
 have dt:=ajn (P:=P) (w:=w) (B:=b) (o:=o) (vs:=List.replicate (k+1) z) (by simpa using hW) (fun u hu=>by rw[List.eq_of_mem_replicate hu];exact h1);refine⟨_, .tuple #[],_,?_, .inl rfl,rfl,dt.2⟩;rw[←iB] at dt ⊢;simp[execOp,resolve,invoke,builtin,bC ha hx,Builtin.clear_,run_underlying hu,zeroValue,typeInfo,hi,jT,dt.1]
end
end
section
attribute [local irreducible] GO GX
theorem K9 {l:List Nat}{j v:Nat}(x:Nat)(hv:l[j]?=some v):(l.take (j+1)).filter (·≠x)=(l.take j).filter (·≠x)++(if v≠x then[v] else[]):=by
 rw[ic,hv,y5];congr 1
 by_cases h:v=x<;>simp[h]
theorem aaO (l:List Nat)(x:Nat)(hx:x∈l)(hl:l.length<2^40){q c:Nat}(b:Nat)(Sl:b≠q)(w:World)(hO:aG w 3 1 (some q) (some ⟨q,0,none⟩) l.length c (aD l))(hB:cD w b [iV x]) :
  aj prog 238 [.slice (some ⟨q,0,none⟩) l.length c, .func (.func 239) #[] #[ak b]].toArray w fun v w'=>
   (v = .slice (some ⟨q,0,none⟩) (l.filter (·≠x)).length c∧aG w' 3 1 (some q) (some ⟨q,0,none⟩) (l.filter (·≠x)).length c (aD (l.filter (·≠x))))∧Mod (· = q) w w':=by
 refine aj.enter func238 rfl ntmps238 rfl (go ?_);refine GX.call (aev l x l.length c rfl hl _ b w hO.bR hB) rfl rfl rfl rfl rfl rfl ?_;rintro _ w0 ⟨⟨z,rfl,hz⟩,hw0⟩;rw[hw0];obtain⟨i0,rfl,Ie,hni⟩:∃i:Nat,z=i∧l[i]?=some x∧x∉l.take i:=by
  rcases hz with⟨_,h⟩|h
  ·exact absurd hx h
  ·exact h
 have amA:=(aV.1 Ie).1;refine go ?_;have Mm:(l.take i0).filter (·≠x)=l.take i0:=p8.2 fun y hy=>by
  simp only[ne_eq,decide_not,Bool.not_eq_eq_eq_not,Bool.not_true,decide_eq_false_iff_not];rintro rfl;exact hni hy
 refine GC.bP [0,1] (fun s:Nat×Nat×List Nat=>[(5, .int .i64 s.1),(6, .int .i64 s.2.1)])
  (fun s w'=>s.1<s.2.1∧s.2.1≤l.length∧s.2.2.length=l.length∧s.2.2.take s.1=(l.take s.2.1).filter (·≠x)∧s.2.2.drop s.2.1=l.drop s.2.1∧aG w' 3 1 (some q) (some ⟨q,0,none⟩) l.length c (aD s.2.2)∧Mod (· = q) w w')
  (fun s=>l.length - s.2.1) (i0,i0+1,l) rfl rfl ⟨by simp only;omega,by simp only;omega,rfl,?_,rfl,hO,Mod.refl w⟩ ?_
 ·simp only;rw[K9 x Ie,Mm];simp
 rintro⟨i,j,cs⟩ w1 ⟨mm,hj,gC,cN,IP,oJ,rI⟩;dsimp only at mm hj gC cN IP oJ ⊢;refine go ?_;refine dj (fun pJ=>?_) (fun pJ=>?_)<;>refine go ?_
 ·have amD:j<l.length:=by omega
  have TQ:cs[j]?=l[j]?:=by
   have h1:=congrArg (fun m:List Nat=>m[0]?) IP;simpa using h1
  have xV:l[j]?=some (l[j]'amD):=by simp
  generalize l[j]'amD=v at xV;rw[xV] at TQ;refine GX.next rfl (GO.indexAddr rfl rfl rfl rfl ah ah rfl ?_);refine GX.lj (NF oJ TQ (j:Int) ah) rfl rfl rfl rfl (go ?_);have DL:cD w1 b [iV x]:=hB.mod rI Sl;refine GX.da (Xr (v:Nat) x b w1 DL) rfl rfl rfl rfl rfl rfl (go ?_);refine go ?_;refine dj (fun hvx=>?_) (fun hvx=>?_)<;>refine go ?_
  ·refine GX.next rfl (GO.indexAddr rfl rfl rfl rfl ah ah rfl ?_);have ei:0+((i:Nat):Int).toNat*1=i:=by simp
   refine GX.Pc oJ (j:=0+((i:Nat):Int).toNat*1) (by rw[ei,agr];omega) rfl rfl rfl rfl (by rfl) (by rfl) fun w2 iW gX=>go ?_
   rw[ei] at iW;have acs:aG w2 3 1 (some q) (some ⟨q,0,none⟩) l.length c (aD (cs.set i v)):=by simpa[aD,pf] using iW
   refine GQ.br (i+1,j+1,cs.set i v) rfl ⟨by simp only;omega,by simp only;omega,by simpa using gC,?_,?_,acs,rI.trans gX⟩ (by simp only;omega)
   ·simp only;rw[K9 x xV,if_pos ah,←cN,ic,dJ ah,List.take_set_of_le (bj i)];rfl
   ·simp only;rw[List.drop_set_of_lt ah,←List.drop_drop,IP,List.drop_drop]
  ·have ad9:v=x:=by omega
   refine GQ.br (i,j+1,cs) rfl ⟨by simp only;omega,by simp only;omega,gC,?_,?_,oJ,rI⟩ (by simp only;omega)
   ·simp only;rw[K9 x xV,if_neg (by simp[ad9]),eY];exact cN
   ·simp only;rw[←List.drop_drop,IP,List.drop_drop]
 have hje:j=l.length:=by omega
 subst hje;rw[j5] at cN;obtain⟨_,_,HV,_⟩:=qV oJ;have kX:(l.filter (·≠x)).length=i:=by rw[←cN,dE];omega
 refine GX.next rfl (GO.wW rfl rfl rfl rfl (Zw ah ah) ⟨by simp;rfl,by simp,by simp⟩ ?_);have es:eS (some ⟨q,0,none⟩) ((i:Nat):Int).toNat c 1=some ⟨q,i,none⟩:=by
  unfold eS;rw[if_neg (by simp;omega)];simp[ir]
 rw[es];have ei:((i:Nat):Int).toNat=i:=by simp
 refine GX.QB (ahY oJ (by rw[ei];omega)) (by rw[ei];omega) (by rfl) rfl rfl rfl rfl fun w2 hp=>go ?_
 refine GX.next rfl (GO.wW rfl rfl rfl rfl (P8 ah ah) ⟨by simp,by simp;rfl,by simp⟩ ?_);have es2:eS (some ⟨q,0,none⟩) 0 c 1=some ⟨q,0,none⟩:=by unfold eS;split<;>simp[ir]
 rw[es2];refine go ?_;have mi:=ahX oJ hp (by rw[ei];simp;omega);have e3:(aD cs).take i=aD (l.filter (·≠x)):=by rw[←cN];simp[aD,List.map_take]
 rw[e3] at mi;rw[kX];refine⟨⟨by simp,mi⟩,rI.trans hp.mod⟩
theorem aaU (l:List Nat)(x:Nat)(hx:x∈l)(hl:l.length<2^40){q c:Nat}(w:World)(hO:aG w 3 1 (some q) (some ⟨q,0,none⟩) l.length c (aD l)) :
  aj prog 237 [.slice (some ⟨q,0,none⟩) l.length c,iV x].toArray w fun v w'=>
   (v = .slice (some ⟨q,0,none⟩) (l.filter (·≠x)).length c∧aG w' 3 1 (some q) (some ⟨q,0,none⟩) (l.filter (·≠x)).length c (aD (l.filter (·≠x))))∧Mod (· = q) w w':=by
 refine aj.enter func237 rfl ntmps237 rfl (go ?_);refine GX.box rfl rfl rfl rfl (by rfl) fun b w1 hb hB hE=>go ?_
 have hq:=hO.block.2;refine GX.call (aaO l x hx hl b ah w1 (hO.ext hE) hB) rfl rfl rfl rfl rfl rfl ?_;rintro v w2 ⟨⟨rfl,iW⟩,gX⟩;refine go ?_;exact⟨⟨rfl,iW⟩,(hE.mod).trans gX⟩
theorem Rc (l1 l2:List Bs)(n1 n2 c1 c2:Nat)(lf:l1.length=n1)(jS:l2.length=n2)(h1:n1<2^40)(h2:n2<2^40)(a1 a2:Option Addr)(w:World)(hA1:bM w a1 (aM l1))(iw:bM w a2 (aM l2)) :
  aj prog 221 [.slice a1 n1 c1, .slice a2 n2 c2].toArray w fun v w'=>v = .bool (decide (l1=l2))∧Ext w w':=by
 subst lf jS;refine aj.enter func221 rfl ntmps221 rfl (go ?_);refine dj (fun aR=>?_) (fun aR=>?_)<;>refine go ?_
 ·exact⟨congrArg _ (bt (fun h=>by subst h;omega)).symm,Mod.refl w⟩
 have hle:l1.length=l2.length:=by omega
 refine GC.bP [0,1,12] (fun k:Nat=>[(13, .int .i64 k)]) (fun k w'=>k≤l1.length∧l1.take k=l2.take k∧Ext w w') (fun k=>l1.length - k) 0 rfl rfl ⟨bh _,rfl,Mod.refl w⟩ ?_;rintro k w1 ⟨hk,cN,hE⟩;refine go ?_;refine dj (fun hc=>?_) (fun hc=>?_)<;>refine go ?_
 ·have aP:k<l1.length:=by omega
  have S7:k<l2.length:=by omega
  obtain⟨b,o,e,jM⟩:=F9 (bM.mod hA1 hE fun _ _ h=>h) aP;subst e;obtain⟨b2,o2,e,Lp⟩:=F9 (bM.mod iw hE fun _ _ h=>h) S7;subst e;refine GC.o5 (aZ [0,3,6,12,15,18,10,22,24]) (fun _=>False) mixed ai ai (go ?_)
  repeat(
   refine go ?_
   first
   |refine GX.pure rfl (GO.indexAddr rfl rfl rfl rfl ah ah rfl ?_)
   |refine GX.read rfl (GO.uK (jM (k:Int) ah) id (Ext.drew _) rfl rfl rfl ?_)
   |refine GX.read rfl (GO.uK (Lp (k:Int) ah) id (Ext.drew _) rfl rfl rfl ?_))
  refine go ?_;refine dj (fun hq=>?_) (fun hq=>?_)<;>refine go ?_
  ·exact⟨congrArg _ (bt (fun h=>by subst h;exact hq rfl)).symm,hE.trans (Ext.drew w1)⟩
  ·refine go ?_;refine GQ.br (k+1) rfl ⟨aP,?_,hE.trans (Ext.drew w1)⟩ ah;rw[kQ aP,kQ S7,cN];congr 2
   first|exact hq|exact Classical.byContradiction fun h=>hq h
 have Il:k=l1.length:=by omega
 subst Il;rw[j5,hle,j5] at cN;exact⟨congrArg _ (bQ cN).symm,hE⟩
def lW (l:List Bs):Nat:=(l.map List.length).sum
def mf (k:Bs)(m:Nat)(l:List Bs):Int×Int:=
 if bI k=true∧(cr l).2=0∧(cr l).1=l then(if 65536<m then(0,5) else(((k.length+m+64+lW l:Nat):Int),0)) else(0,2)
theorem AU (l:List Bs):(cr l).1.length≤16:=by
 unfold cr;split
 ·simp
 ·split
  ·simp
  ·simp only[(lV _).length_eq,fk];omega
theorem X9 {l:List Bs}(h:(cr l).2=0):∀t∈l,fF t=true:=by
 unfold cr at h;split at h
 ·cases h
 ·rename_i h1
  exact rj.1 (by simpa using h1)
theorem alA {l:List Bs}{i:Nat}(h:i<l.length):lW (l.take (i+1))=lW (l.take i)+l[i].length:=by
 rw[kQ h];simp only[lW,eD,List.sum_append,cK,tD,List.sum_cons,List.sum_nil,p6]
theorem X7 {l:List Bs}{d:Nat}(h:∀t∈l,t.length≤d):lW l≤l.length*d:=by
 induction l with
 |nil=>simp[lW]
 |cons x r ih=>
  have h1:=h x (by simp);have h2:=ih fun t ht=>h t (by simp[ht])
  simp only[lW,cK,List.sum_cons,dR,iP,Nat.one_mul] at h2 ⊢;omega
theorem aaE (k:Bs)(hk:k.length<2^40)(m mc:Nat)(hm:m<2^40)(va:Option Addr)(l:List Bs)(n:Nat)(hn:l.length=n)(hl:n<2^40)(a:Option Addr)(c:Nat)(w:World)(hA:bM w a (aM l)) :
  aj prog 164 [str k, .slice va m mc, .slice a n c].toArray w fun v w'=>v = .tuple #[iV (mf k m l).1,iV (mf k m l).2]∧Ext w w':=by
 subst hn;refine aj.enter func164 rfl ntmps164 rfl (go ?_);refine GX.call (X' l l.length rfl hl a c w hA) rfl rfl rfl rfl rfl rfl ?_;rintro _ w1 ⟨⟨a',c',rfl,hN⟩,cW⟩;refine go ?_;refine GX.da (rO k w1) rfl rfl rfl rfl rfl rfl (go ?_);cases aX:bI k with
 |false=>
  refine go ?_;rw[show mf k m l=(0,2) by simp[mf,aX]];exact⟨rfl,cW⟩
 |true=>
 refine go ?_;refine dj (fun he=>?_) (fun he=>?_)<;>refine go ?_
 ·rw[show mf k m l=(0,2) by simp only[mf];rw[if_neg (fun h=>he h.2.1)]];exact⟨rfl,cW⟩
 have he:(cr l).2=0:=by omega
 have wq:=AU l;refine GX.call (Rc (cr l).1 l (cr l).1.length l.length c' c rfl rfl ah hl a' a w1 hN.bR (bM.mod hA cW fun _ _ h=>h)) rfl rfl rfl rfl rfl rfl ?_;rintro _ w2 ⟨rfl,di⟩;have HE:=cW.trans di;refine go ?_;refine dj (fun aR=>?_) (fun aR=>?_)<;>refine go ?_
 ·rw[show mf k m l=(0,2) by simp only[mf];rw[if_neg (fun h=>aR h.2.2)]];exact⟨rfl,HE⟩
 have yf:(cr l).1=l:=aR;have amF:l.length≤16:=by rw[←yf];exact wq
 have iw:bM w2 a (aM l):=bM.mod hA HE fun _ _ h=>h
 refine dj (fun Mc=>?_) (fun Mc=>?_)<;>refine go ?_
 ·rw[show mf k m l=(0,5) by simp only[mf];rw[if_pos ⟨aX,he,yf⟩,if_pos ah]];exact⟨rfl,HE⟩
 have TH:∀t∈l,t.length≤64:=fun t ht=>(eN (X9 he t ht)).2
 have wm:∀i,lW (l.take i)≤16*64:=fun i=>by
  have h1:=X7 (l:=l.take i) (d:=64) fun t ht=>TH t (List.mem_of_mem_take ht)
  have h2:(l.take i).length≤16:=by rw[dE];omega
  have h3:(l.take i).length*64≤16*64:=y7 _ h2;omega
 refine go ?_;refine GC.bP [42,43] (fun i:Nat=>[(10, .int .i64 ((k.length+m+64+lW (l.take i):Nat):Int)),(44, .int .i64 i)]) (fun i w'=>i≤l.length∧w2=w') (fun i=>l.length - i) 0 (by simp[lW];rfl) rfl ⟨bh _,rfl⟩ ?_;rintro i _ ⟨hi,rfl⟩;have IN:=wm i;refine go ?_;refine dj (fun hc=>?_) (fun hc=>?_)<;>refine go ?_
 ·have aP:i<l.length:=by omega
  obtain⟨b,o,e,jM⟩:=F9 iw aP;subst e;have hti:l[i].length≤64:=TH _ (ot aP);refine GX.next rfl (GO.indexAddr rfl rfl rfl rfl ah ah rfl ?_);refine GX.lj (jM (i:Int) ah) rfl rfl rfl rfl (go ?_);have dt:=alA aP;have e1:((k.length+m+64+lW (l.take i):Nat):Int)+(l[i].length:Int)=((k.length+m+64+lW (l.take (i+1)):Nat):Int):=by omega
  rw[e1];exact GQ.br (i+1) rfl ⟨aP,rfl⟩ ah
 have BK:i=l.length:=by omega
 subst BK;rw[show mf k m l=(((k.length+m+64+lW l:Nat):Int),0) by simp only[mf];rw[if_pos ⟨aX,he,yf⟩,if_neg ah]];rw[j5];exact⟨rfl,HE⟩
end
section
attribute [local irreducible] GO GX aA fz aF aQ ao star
variable {o:Og}{w:World}
theorem aj.po {P:Program}{f:FuncId}{al:List Value}{o:Og}{w:World}{l:List It}{V:Value}(hs:Start o w l)(h:aj P f al.toArray w fun v w'=>v=V∧Ext w w'):aj P f al.toArray w (Po o V []):=
 h.mono fun _ _ ⟨h1,h2⟩=>⟨h1,(hs.sh.ext h2).to⟩
theorem ij.sl {og:Og}{w w':World}{l:List It}{el:TypeId}{sz n c:Nat}{a:Option Addr}{cs:List Value}(hH:SH og w l)(hE:Ext w w')(h:ij w w' el sz a n c cs):∃q,a=ay q∧SH og w' (ao el sz q n c cs::l):=by
 obtain⟨ob,h1,h2,h3⟩:=h;have e:a=ay ob:=wO h1 fun h0=>by
  cases a with
  |none=>rfl
  |some x=>rw[h3 x rfl] at h0;cases h0
 subst e;exact⟨ob,rfl,hH.cE hE h2 h1⟩
theorem Gd {a:Option Addr}{n c:Nat}(l:List Bs)(hn:l.length=n)(hl:n<2^40)(hs:Start o w [aF a (aM l)]) :
  aj prog 147 [.slice a n c].toArray w (aU o (fun q:Option Nat×Nat => .tuple #[mN (cr l).1.length q,iV (cr l).2]) (fun _=>True) (mM 9 1 (cr l).1.length (aM (cr l).1))):=by
 have hA:=hs.sh.bR (x:=aF a (aM l)) (a:=a) (cs:=aM l) bL;refine(X' l n hn hl a c w hA).mono ?_;rintro v w' ⟨⟨a',c',rfl,h1⟩,hE⟩;obtain⟨q,rfl,hH⟩:=h1.sl hs.sh hE;exact⟨(q,c'),rfl,trivial,hH.to⟩
theorem QQ {va a:Option Addr}{m mc n c:Nat}(k:Bs)(l:List Bs)(hk:k.length<2^40)(hm:m<2^40)(hn:l.length=n)(hl:n<2^40)(hs:Start o w [aF a (aM l)]) :
  aj prog 164 [str k, .slice va m mc, .slice a n c].toArray w (Po o (.tuple #[iV (mf k m l).1,iV (mf k m l).2]) []):=
 aj.po hs (aaE k hk m mc hm va l n hn hl a c w (hs.sh.bR (x:=aF a (aM l)) (a:=a) (cs:=aM l) bL))
theorem Rb {a1 a2:Option Addr}{n1 n2 c1 c2:Nat}(l1 l2:List Bs)(lf:l1.length=n1)(jS:l2.length=n2)(h1:n1<2^40)(h2:n2<2^40)(hs:Start o w [aF a1 (aM l1),aF a2 (aM l2)]) :
  aj prog 221 [.slice a1 n1 c1, .slice a2 n2 c2].toArray w (Po o (.bool (decide (l1=l2))) []):=
 aj.po hs (Rc l1 l2 n1 n2 c1 c2 lf jS h1 h2 a1 a2 w (hs.sh.bR (x:=aF a1 (aM l1)) (a:=a1) (cs:=aM l1) bL) (hs.sh.bR (x:=aF a2 (aM l2)) (a:=a2) (cs:=aM l2) bL))
structure cC where
 k:Bs
 v:Bs
 t:List Bs
 d:Nat
 n:Nat
 st:Nat
structure cH where
 e:cC
 qv:Option Nat×Nat
 qt:Option Nat×Nat
def s0:cH:=⟨⟨[],[],[],0,0,0⟩,(none,0),(none,0)⟩
def eB (x:cH):List Value:=[str x.e.k,mN x.e.v.length x.qv,mN x.e.t.length x.qt,uV x.e.d,uV x.e.n,uV x.e.st]
theorem o9 (x:cH):(eB x).length=6:=rfl
def fx (x:cH):List It:=[ao 5 1 x.qv.1 x.e.v.length x.qv.2 (Lib.byteCells x.e.v),ao 9 1 x.qt.1 x.e.t.length x.qt.2 (aM x.e.t)]
def cY (S:List cH):List It:=(S.map fx).flatten
theorem CG (S T:List cH):cY (S++T)=cY S++cY T:=by simp[cY]
theorem CH (x:cH):cY [x]=fx x:=by simp[cY]
theorem WB {S T:List cH}(h:S.Perm T):(cY S).Perm (cY T):=(h.map fx).flatten
theorem abq {α:Type}{S:List α}{n:Nat}{x:α}(h:S[n]?=some x):S.Perm (x::S.eraseIdx n):=by
 induction S generalizing n with
 |nil=>simp at h
 |cons y S ih=>
  cases n with
  |zero=>simp at h;subst h;exact mC _
  |succ n=>
   simp at h;rw[List.eraseIdx_cons_succ];exact(List.Perm.cons y (ih h)).trans (List.Perm.swap _ _ _)
theorem yF {S:List cH}{n:Nat}{x:cH}(h:S[n]?=some x):(cY S).Perm (fx x++cY (S.eraseIdx n)):=by
 have:=WB (abq h);rwa [show cY (x::S.eraseIdx n)=fx x++cY (S.eraseIdx n) by simp[cY]] at this
theorem OA {S:List cH}{n:Nat}(x:cH)(h:n<S.length):(cY (S.set n x)).Perm (fx x++cY (S.eraseIdx n)):=by
 have:=yF (S:=S.set n x) (n:=n) (x:=x) (by simp[h]);rwa [List.eraseIdx_set_eq] at this
def fb (e:cC):Nat:=e.k.length+e.v.length+64+lW e.t
structure l7 (e:cC):Prop where
 k:bI e.k=true
 v:e.v.length≤65536
 t:cr e.t=(e.t,0)
 d:e.d≤never
 n:e.n≤never
 st:e.st≤never
def zg (x:cH):Prop:=x.e.v.length≤65536∧x.e.t.length≤16∧x.e.k.length≤250
theorem Xp:zg s0:=⟨by decide,by decide,by decide⟩
theorem l7.tl {e:cC}(h:l7 e):e.t.length≤16:=by have:=AU e.t;rw[h.t] at this;exact this
theorem l7.tag {e:cC}(h:l7 e):∀t∈e.t,fF t=true:=X9 (by rw[h.t])
theorem Ov {k:Bs}(h:bI k=true):0<k.length∧k.length≤250:=eN h
theorem l7.b {x:cH}(h:l7 x.e):zg x:=⟨h.v,h.tl,(Ov h.k).2⟩
theorem aaC {e:cC}(h:l7 e):mf e.k e.v.length e.t=(((fb e:Nat):Int),0):=by
 unfold mf;rw[if_pos ⟨h.k,by rw[h.t],by rw[h.t]⟩,if_neg (by have:=h.v;omega)];rfl
theorem KW {e:cC}(h:l7 e):65≤fb e∧fb e≤67000:=by
 have h1:=Ov h.k;have h2:=h.v;have h3:=X7 (l:=e.t) (d:=64) fun t ht=>(eN (h.tag t ht)).2
 have h4:=h.tl;have h5:e.t.length*64≤16*64:=y7 _ h4;unfold fb;omega
def dL (l:List cC):Nat:=(l.map fb).sum
theorem Xs {av ta:Option Addr}{nv cv nt ct d n st:Nat}(e:cC)(hE:l7 e)(h1:e.v.length=nv)(h2:e.t.length=nt)(hs:Start o w [aF ta (aM e.t)]) :
  aj prog 177 [Hn e.k (.slice av nv cv) (.slice ta nt ct) d n st].toArray w (Po o (iV (fb e)) []):=by
 have hH:=hs.sh;have hc:=aaC hE;have h3:=hE.v;have h4:=hE.tl;have h5:=Ov hE.k;subst h1;refine aj.enter func177 rfl ntmps177 rfl (gh ?_);refine GX.cw (h:=fun b w hH=>gh ?_);refine GX.aL (hc:=fun _ hs=>QQ (m:=e.v.length) (mc:=cv) (va:=av) e.k e.t ah ah h2 ah hs) (h:=fun w hE hH=>gh ?_);rw[hc];refine gh ?_;exact⟨rfl,hH.to⟩
end
end Go.Proofs.YtmlpbmgfmnmmmaaGreat.V.M
