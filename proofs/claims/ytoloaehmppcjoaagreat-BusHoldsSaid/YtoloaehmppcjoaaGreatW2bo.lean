/-
  Parts of the proof. No condition.
-/
import Derived.Test.YtoloaehmppcjoaaGreatW2bn
import Derived.Test.YtoloaehmppcjoaaGreatW2ax
import Derived.Test.YtoloaehmppcjoaaGreatW2bd
set_option linter.unusedVariables false
set_option linter.unusedSimpArgs false
set_option maxRecDepth 8000
set_option maxHeartbeats 8000000
open Go.Proofs.Tryz
namespace Go.Proofs.YtoloaehmppcjoaaGreat.V.M
section
attribute [local irreducible] GO GX
abbrev zO (D:List (Nx×Nd)):List It:=(D.map fun p=>yG p.1 p.2).flatten
theorem Gp:∀(M:List Nx) (L:List Nd),sA M L=zO (M.zip L)
 | [],_=>by simp[sA,zO]
 |_::_,[]=>by simp[sA,zO]
 |m::M,x::L=>by
  have h:=Gp M L;unfold sA zO at h ⊢;simp[h]
theorem PA {D:List (Nx×Nd)}{i:Nat}{p:Nx×Nd}(h:D[i]?=some p):(zO D).Perm (yG p.1 p.2++zO (D.eraseIdx i)):=by
 obtain⟨hi,rfl⟩:=aV.1 h;have h1:D.Perm (D[i]::D.eraseIdx i):=by
  rw[List.eraseIdx_eq_take_drop_succ]
  conv=>lhs;rw[←jW i D,tV hi]
  exact List.perm_middle
 exact(h1.map _).flatten
theorem ame {D:List (Nx×Nd)}{i:Nat}{p:Nx×Nd}(h:i<D.length):(zO (D.set i p)).Perm (yG p.1 p.2++zO (D.eraseIdx i)):=by
 have h1:=PA (D:=D.set i p) (i:=i) (p:=p) (by simp[h]);rwa [List.eraseIdx_set_eq] at h1
theorem SH.KA {o:Og}{w:World}{l r:List It}{D:List (Nx×Nd)}{i:Nat}{m:Nx}{x:Nd}(hg:D[i]?=some (m,x))(hH:SH o w l)(hs:az (bJ (zO D)) l r:=by repeat(first|exact az.here|apply az.there)):SH o w (nB m x::nf m x::nI m x::bJ (zO (D.eraseIdx i))::r):=
 hH.rK (yG m x) _ (PA hg) hs
theorem SH.Yu {o:Og}{w:World}{l r:List It}{D:List (Nx×Nd)}{i:Nat}{m:Nx}{x:Nd}(hg:D[i]?=some (m,x))(hH:SH o w l)(hp:Pk l [bJ (zO (D.eraseIdx i)),nB m x,nf m x,nI m x] r:=by repeat(first|exact Pk.nil|(apply Pk.cons;repeat(first|exact az.here|apply az.there)))):SH o w (bJ (zO D)::r):=
 hH.iI (yG m x) _ hp (PA hg)
theorem SH.Pz {o:Og}{w:World}{l r:List It}{D:List (Nx×Nd)}{i:Nat}{m:Nx}{x:Nd}(hi:i<D.length)(hH:SH o w l)(hp:Pk l [bJ (zO (D.eraseIdx i)),nB m x,nf m x,nI m x] r:=by repeat(first|exact Pk.nil|(apply Pk.cons;repeat(first|exact az.here|apply az.there)))):SH o w (bJ (zO (D.set i (m,x)))::r):=
 hH.iI (yG m x) _ hp (ame hi)
theorem SH.amf {o:Og}{w:World}{l r:List It}{D:List (Nx×Nd)}{D':List (Nx×Nd)}{f:Nx×Nd→Bool}(hD:D'=D.filter f)(hH:SH o w l)(hs:az (bJ (zO D)) l r:=by repeat(first|exact az.here|apply az.there)):SH o w (bJ (zO D')::r):=by
 have h1:(zO D).Perm (zO D'++zO (D.filter fun p=>!f p)):=by
  rw[hD,←A0,←eA];exact((List.filter_append_perm f D).symm.map _).flatten
 have h2:=hH.rK (zO D') _ h1 hs;exact((SH.mk (f:=fun _:Unit=>zO D') () h2).perm (List.Perm.swap _ _ _)).drop
def xR (t:Nat→Nat)(e:Nat)(x:Nd):Nd:={ x with down:=if 1≤e then x.down.map t else x.down,up:=if 2≤e then x.up.map t else x.up}
def C3 (p:Nx×Nd):Bool:=eB p.2
theorem Yw:∀{M:List Nx}{L:List Nd},M.length=L.length→((M.zip L).filter C3).map (·.2)=L.filter eB
 | [],[],_=>rfl
 |m::M,x::L,h=>by
  have ih:=Yw (M:=M) (L:=L) (by simpa using h);rw[List.zip_cons_cons,lO,lO];show(if eB x=true then _ else _:List _).map _=_;split
  ·rw[cJ,ih]
  ·exact ih
 | [],_::_,h=>by simp at h
 |_::_,[],h=>by simp at h
theorem KB {M:List Nx}{L:List Nd}(h:M.length=L.length){i:Nat}(hi:i<L.length):∃m x,L[i]?=some x∧M[i]?=some m∧(M.zip L)[i]?=some (m,x):=
 ⟨M[i],L[i],by simp[hi],by simp[h,hi],by rw[List.getElem?_zip_eq_some];simp[h,hi]⟩
theorem VT {t:Nat→Nat}{l:List Nat}{k:Nat}{v:Nat}(h:l[k]?=some v):((l.take k).map t++l.drop k).set k (t v)=(l.take (k+1)).map t++l.drop (k+1):=by
 have hk:=(aV.1 h).1;have hlen:((l.take k).map t).length=k:=by simp;omega
 rw[List.set_append_right _ _ ah,hlen,Nat.sub_self,tV hk,List.set_cons_zero,gv,h];simp
theorem Yx {t:Nat→Nat}:∀D:List (Nx×Nd),D.map (fun p=>(p.1,kV t p.2))=(D.map (·.1)).zip ((D.map fun p=>(p.1,kV t p.2)).map (·.2))
 | []=>rfl
 |p::D=>by
  have:=Yx (t:=t) D;simp only[cJ,List.zip_cons_cons];rw[←this]
theorem ah2 {t:Nat→Nat}{D:List (Nx×Nd)}{r:Nat}{m:Nx}{x:Nd}(h:D[r]?=some (m,x)):((D.take r).map (fun p=>(p.1,kV t p.2))++D.drop r).set r (m,kV t x)=(D.take (r+1)).map (fun p=>(p.1,kV t p.2))++D.drop (r+1):=by
 have hk:=(aV.1 h).1;have hlen:((D.take r).map fun p:Nx×Nd=>(p.1,kV t p.2)).length=r:=by simp;omega
 rw[List.set_append_right _ _ ah,hlen,Nat.sub_self,tV hk,List.set_cons_zero,gv,h];simp
theorem ace {o:Og}{w:World}{g:Nat}{G:Gr}(hn:(G.list.map (·.key)).Nodup)(Ag:G.aJ<eu)(cV:∀x∈G.list,x.key.length<2^40)(C:Nat)(hC:G.list.length<C)(zC:C<2^40)(hs:Start o w [jr g G]) :
  aj prog 274 [ak g,iV C].toArray w (aX o (fun y:Value×List Nat=>y.1) (fun y=>ir { G with cells:=y.2}∧y.2.length=C) (fun y=>[jr g { G with cells:=y.2}])):=by
 obtain⟨ow,ol,al,cl,cb,cc,bs,hG,hF⟩:=Pb hs;refine(Qe hG hn Ag cV C hC zC).mono ?_;rintro v w' ⟨⟨cs,b,c,dy,vT,aU,gO,sj⟩,hM⟩;exact⟨(v,cs),rfl,⟨aU,gO⟩,SH.OA hs hF hM vT sj.new⟩
theorem ah7 {o:Og}{w:World}{g:Nat}{G:Gr}(hi:kG G.list)(hN:G.list.length≤65536)(hd:∀x∈G.list,x.down.length≤65536∧x.up.length≤65536)(hn:(G.list.map (·.key)).Nodup)(eH:G.aJ<eu)(Bx:G.list.length<G.cells.length)(hC:G.cells.length<2^40)(hs:Start o w [jr g G]) :
  aj prog 268 [ak g].toArray w (aX o (fun y:List Nat => .tuple #[]) (fun cs=>ir { G with list:=f' G.list,cells:=cs}∧cs.length=G.cells.length) (fun cs=>[jr g { G with list:=f' G.list,cells:=cs}])):=by
 have hH:=hs.sh;obtain⟨⟨⟨⟨q,cq⟩,cb,cc,M⟩,hM⟩,hH⟩:=SH.un hH;replace hH:=SH.ap hH;dsimp only at hH;dsimp only[Bv,Bt,Bu] at hH hM;rw[Gp] at hH;refine aj.enter func268 rfl ntmps268 rfl (gh ?_);refine GX.Js (h:=fun tb w hH=>gh ?_);refine GX.sZ (h:=fun q0 w hH=>gh ?_);refine GC.bR [0,2,21,22] (fun y:Nat×(Option Nat×Nat)=>[(3, .slice (aA y.2.1) ((G.list.take y.1).filter eB).length y.2.2),(23,iV y.1)]) (fun y w'=>∃T:List Nat,y.1≤G.list.length∧T.length=G.list.length∧(∀j x,j<y.1→G.list[j]?=some x→eB x=true→T[j]?=some (cz G.list j))∧SH o w' [aq 3 1 (some tb) G.list.length G.list.length (aG T),aq 266 1 y.2.1 ((G.list.take y.1).filter eB).length y.2.2 (bq ((((M.zip G.list).take y.1).filter C3).map (·.1.b))),aB g [iV G.cM,iV G.dg,uV G.aJ, .slice (aA q) G.list.length cq, .slice (some ⟨cb,0,none⟩) G.cells.length cc,iV G.cp,iV G.cW],aq 266 1 q G.list.length cq (bq (M.map (·.b))),aq 3 1 (some cb) G.cells.length cc (aG G.cells),bJ (zO (M.zip G.list))]) (fun y=>G.list.length - y.1) (0,q0,0) rfl rfl ⟨List.replicate G.list.length 0,bh _,by simp,fun j x h=>by omega,?_⟩ ?_
 ·have e:(List.replicate (G.list.length:Int).toNat ((fun x:Value=>x.cells.toList) (Value.int IntKind.i64 0))).flatten=aG (List.replicate G.list.length 0):=by rw[←NN];simp[Value.cells]
  rw[e] at hH;exact hH.to
 rintro⟨i,q1,c1⟩ w ⟨T,hiL,hT,D9,hH⟩;dsimp only at hiL D9 hH ⊢;refine gh ?_;refine ifs (fun h1=>?_) (fun h1=>?_)<;>refine gh ?_
 ·obtain⟨m,x,hx,hm,fU⟩:=KB hM (i:=i) ah;obtain⟨qb,rfl⟩:=hH.pos (el:=266) (sz:=1) (q:=q);replace hH:=hH.KA fU;refine gh ?_;refine GX.next rfl (GO.cT (hv:=show(bq (M.map (·.b)))[i]?=some (ak m.b) by simp[bq,hm]) (h:=gh ?_));dsimp only[nB,nf,nI,u9] at hH;obtain⟨mG,uS⟩:=hd x (bD hx);refine GC.br (pl:=(bg [0,3,6,9,18,21,24,27,13,15,31,33,36,39])) (T:=fun _=>False) (hm:=mixed) (h:=fun w hE hH=>gh ?_);refine GX.pure rfl (GO.l4 rfl rfl rfl rfl (by decide) (by decide) rfl (gh ?_));refine GX.pure rfl (GO.l4 rfl rfl rfl rfl (by decide) (by decide) rfl (gh ?_));have rf:(G.list.take (i+1)).filter eB=(G.list.take i).filter eB++if eB x then[x] else[]:=by
   rw[gv,hx,vu];cases h:eB x<;>simp[lO,h]
  have yt:((M.zip G.list).take (i+1)).filter C3=((M.zip G.list).take i).filter C3++if eB x then[(m,x)] else[]:=by
   rw[gv,fU,vu];cases h:eB x<;>simp[lO,C3,h]
  have nA:((G.list.take i).filter eB).length=cz G.list i:=rfl;have M7:cz G.list i≤G.list.length:=by
   unfold cz;exact dF (pF _ _) (by rw[dI];omega)
  refine ifs (fun h2=>?_) (fun h2=>?_)<;>refine gh ?_
  ·have hk:eB x=true:=b8 ah;rw[if_pos hk] at rf yt;refine gh ?_;refine GX.Kh (j:=0+((i:Nat):Int).toNat*1) (hj:=by simp[aG];omega) (h:=fun w hH=>gh ?_);rw[show 0+((i:Nat):Int).toNat*1=i by simp] at hH;refine GX.nR (h1:=by simp[Value.oneCell',ak]) (h:=fun q c w _ hH=>gh ?_);rw[show(aG T).set i (.int .i64 ((G.list.take i).filter eB).length)=aG (T.set i (cz G.list i)) by simp[aG,pG,cz]] at hH;have hlen:((G.list.take (i+1)).filter eB).length=((G.list.take i).filter eB).length+1:=by rw[rf];simp
   refine GQ.bj (i+1,_,_) (by dsimp only;rw[hlen];rfl) ⟨T.set i (cz G.list i),by dsimp only;omega,by simpa using hT,fun j y hj hy uG=>?_,?_⟩ (by dsimp only;omega)
   ·rcases qz j i with h|h
    ·rw[dv ah];exact D9 j y h hy uG
    ·obtain rfl:j=i:=by dsimp only at hj;omega
     rw[dE ah]
   ·dsimp only;rw[hlen,yt,eA,List.map_singleton,show∀l:List Nat,bq (l++[m.b])=bq l++[ak m.b] from fun l=>by simp[bq]];exact(hH.Yu fU).to
  ·have hk:eB x=false:=bQ ah;rw[hk,if_neg (by simp),fB] at rf yt;refine gh ?_;refine GQ.bj (i+1,q1,c1) (by dsimp only;rw[rf];rfl) ⟨T,by dsimp only;omega,hT,fun j y hj hy uG=>?_,?_⟩ (by dsimp only;omega)
   ·rcases qz j i with h|h
    ·exact D9 j y h hy uG
    ·obtain rfl:j=i:=by dsimp only at hj;omega
     rw[hx] at hy;cases hy;rw[hk] at uG;cases uG
   ·dsimp only;rw[rf,yt];exact(hH.Yu fU).to
 ·obtain rfl:i=G.list.length:=by omega
  rw[fw (aY _),fw (by simp;omega)] at hH;rw[fw (aY _)];have pd:=Yw hM;generalize hD:(M.zip G.list).filter C3=D at hH pd;have HJ:(G.list.filter eB).length=D.length:=by rw[←pd];simp
  have hDn:D.length≤G.list.length:=by rw[←HJ];exact pF _ _
  rw[HJ] at hH ⊢;replace hH:=hH.amf hD.symm;refine gh ?_;refine GC.bR [0,2,3,52,53] (fun y:Nat=>[(54,iV y)]) (fun y w'=>y≤D.length∧SH o w' [aq 3 1 (some tb) G.list.length G.list.length (aG T),aq 266 1 q1 D.length c1 (bq (D.map (·.1.b))),aB g [iV G.cM,iV G.dg,uV G.aJ, .slice (aA q) G.list.length cq, .slice (some ⟨cb,0,none⟩) G.cells.length cc,iV G.cp,iV G.cW],aq 3 1 (some cb) G.cells.length cc (aG G.cells),bJ (zO ((D.take y).map (fun p=>(p.1,kV (cz G.list) p.2))++D.drop y))]) (fun y=>D.length - y) 0 rfl rfl ⟨bh _,hH.to⟩ ?_;rintro r w ⟨nA,hH⟩;refine gh ?_;refine ifs (fun h1=>?_) (fun h1=>?_)<;>refine gh ?_
  ·obtain⟨m,x,fU⟩:∃m x,D[r]?=some (m,x):=⟨D[r].1,D[r].2,bO ah⟩
   obtain⟨mb,⟨m1,d1⟩,m2,d2⟩:=m;have hE:((D.take r).map (fun p=>(p.1,kV (cz G.list) p.2))++D.drop r)[r]?=some (⟨mb,(m1,d1),m2,d2⟩,x):=by
    rw[iD (by simp;omega)];simp[pC nA,fU]
   have eS:x∈G.list.filter eB:=by rw[←pd];exact bG.2 ⟨_,bD fU,rfl⟩
   have TV:=(fR.1 eS).1;obtain⟨mG,uS⟩:=hd x TV;obtain⟨jx,SV⟩:=ey TV;have o4:∀v∈x.down,v<G.list.length∧(aG T)[v]?=some (iV (cz G.list v)):=fun v hv=>by
    obtain⟨y,h1,h2⟩:=hi.yy SV hv;have h3:=(aV.1 h1).1;exact⟨h3,by rw[aG,gG,D9 v y h3 h1 h2];rfl⟩
   have ju:∀v∈x.up,v<G.list.length∧(aG T)[v]?=some (iV (cz G.list v)):=fun v hv=>by
    obtain⟨y,h1,h2⟩:=hi.Fp SV hv;have h3:=(aV.1 h1).1;exact⟨h3,by rw[aG,gG,D9 v y h3 h1 h2];rfl⟩
   obtain⟨qb,rfl⟩:=hH.pos (el:=266) (sz:=1) (q:=q1);replace hH:=hH.KA hE;refine gh ?_;refine GX.next rfl (GO.cT (hv:=show(bq (D.map (·.1.b)))[r]?=some (ak mb) by simp[bq,fU]) (h:=gh ?_));refine GC.bR [0,2,3,7,52,53,54] (fun y:Nat=>[(58,iV y)]) (fun y w'=>y≤2∧SH o w' [nB ⟨mb,(m1,d1),m2,d2⟩ (xR (cz G.list) y x),nf ⟨mb,(m1,d1),m2,d2⟩ (xR (cz G.list) y x),nI ⟨mb,(m1,d1),m2,d2⟩ (xR (cz G.list) y x),bJ (zO (((D.take r).map (fun p=>(p.1,kV (cz G.list) p.2))++D.drop r).eraseIdx r)),aq 3 1 (some tb) G.list.length G.list.length (aG T),aq 266 1 (some qb) D.length c1 (bq (D.map (·.1.b))),aB g [iV G.cM,iV G.dg,uV G.aJ, .slice (aA q) G.list.length cq, .slice (some ⟨cb,0,none⟩) G.cells.length cc,iV G.cp,iV G.cW],aq 3 1 (some cb) G.cells.length cc (aG G.cells)]) (fun y=>2 - y) 0 rfl rfl ⟨bh _,hH.to⟩ ?_;generalize hBg:bJ (zO (((D.take r).map (fun p=>(p.1,kV (cz G.list) p.2))++D.drop r).eraseIdx r))=Bg;rintro e w ⟨he,hH⟩;refine gh ?_;refine ifs (fun h2=>?_) (fun h2=>?_)<;>refine gh ?_
   ·obtain rfl|rfl:e=0∨e=1:=by omega
    ·rw[show xR (cz G.list) 0 x=x from rfl] at hH;dsimp only[nB,nf,nI,u9] at hH
     skip
     refine gh ?_;refine GX.next rfl (GO.l4 rfl rfl rfl rfl (by decide) (by decide) rfl (gh ?_));refine GC.bR [0,2,3,7,8,52,53,54,58,66,67] (fun k:Nat=>[(68,iV k)]) (fun k w'=>k≤x.down.length∧SH o w' [aq 3 1 m1 x.down.length d1 (aG ((x.down.take k).map (cz G.list)++x.down.drop k)),aq 3 1 m2 x.up.length d2 (aG x.up),Bg,aB mb [str x.key, .slice (aA m1) x.down.length d1, .slice (aA m2) x.up.length d2,iV x.mark],aq 3 1 (some tb) G.list.length G.list.length (aG T),aq 266 1 (some qb) D.length c1 (bq (D.map (·.1.b))),aB g [iV G.cM,iV G.dg,uV G.aJ, .slice (aA q) G.list.length cq, .slice (some ⟨cb,0,none⟩) G.cells.length cc,iV G.cp,iV G.cW],aq 3 1 (some cb) G.cells.length cc (aG G.cells)]) (fun k=>x.down.length - k) 0 rfl rfl ⟨bh _,hH.to⟩ ?_;rintro k w ⟨cV,hH⟩;refine gh ?_;refine ifs (fun h3=>?_) (fun h3=>?_)<;>refine gh ?_
     ·obtain⟨v,hv⟩:∃v,x.down[k]?=some v:=⟨_,bO ah⟩
      have Ns:=bD hv;obtain⟨hvL,Nr⟩:=o4 v Ns;obtain⟨qk,rfl⟩:=hH.pos (el:=3) (sz:=1) (q:=m1) (n:=x.down.length);refine gh ?_;refine GX.next rfl (GO.cT (hv:=show(aG ((x.down.take k).map (cz G.list)++x.down.drop k))[k]?=some (iV v) by rw[aG,gG,iD (by simp;omega)];simp[hv,pC cV]) (h:=gh ?_));refine GC.br (pl:=(bg [0,3,6,9,12,18,21,24,27,16,31,33,38])) (T:=fun _=>False) (hm:=mixed) (h:=fun w hE hH=>gh ?_);refine GX.pure rfl (GO.l4 rfl rfl rfl rfl (by decide) (by decide) rfl (gh ?_));refine GX.read rfl (GO.lC (hv:=Nr) (h:=gh ?_));refine GX.Ga (j:=0+((k:Nat):Int).toNat*1) (hj:=by simp[aG];omega) (h:=fun w hH=>gh ?_);rw[show 0+((k:Nat):Int).toNat*1=k by simp,show(aG ((x.down.take k).map (cz G.list)++x.down.drop k)).set k (iV (cz G.list v))=aG ((x.down.take (k+1)).map (cz G.list)++x.down.drop (k+1)) by rw[←VT hv];simp[aG,pG]] at hH;exact GQ.bj (k+1) rfl ⟨by omega,hH.to⟩ ah
     ·obtain rfl:k=x.down.length:=by omega
      rw[fw (aY _),mm (aY _),fB] at hH;refine gh ?_;refine GQ.bj 1 rfl ⟨by omega,?_⟩ ah;dsimp only[nB,nf,nI,u9];simp only[xR,aY,if_true,Nat.reduceLeDiff,if_false,fH];exact hH.to
    ·dsimp only[nB,nf,nI,u9,xR,Nat.reduceLeDiff] at hH;simp only[aY,if_true,Nat.reduceLeDiff,if_false,fH] at hH;refine gh ?_;refine GX.next rfl (GO.l4 rfl rfl rfl rfl (by decide) (by decide) rfl (gh ?_));refine GC.bR [0,2,3,7,8,52,53,54,58,66,67] (fun k:Nat=>[(68,iV k)]) (fun k w'=>k≤x.up.length∧SH o w' [aq 3 1 m2 x.up.length d2 (aG ((x.up.take k).map (cz G.list)++x.up.drop k)),aq 3 1 m1 x.down.length d1 (aG (x.down.map (cz G.list))),Bg,aB mb [str x.key, .slice (aA m1) x.down.length d1, .slice (aA m2) x.up.length d2,iV x.mark],aq 3 1 (some tb) G.list.length G.list.length (aG T),aq 266 1 (some qb) D.length c1 (bq (D.map (·.1.b))),aB g [iV G.cM,iV G.dg,uV G.aJ, .slice (aA q) G.list.length cq, .slice (some ⟨cb,0,none⟩) G.cells.length cc,iV G.cp,iV G.cW],aq 3 1 (some cb) G.cells.length cc (aG G.cells)]) (fun k=>x.up.length - k) 0 rfl rfl ⟨bh _,hH.to⟩ ?_;rintro k w ⟨cV,hH⟩;refine gh ?_;refine ifs (fun h3=>?_) (fun h3=>?_)<;>refine gh ?_
     ·obtain⟨v,hv⟩:∃v,x.up[k]?=some v:=⟨_,bO ah⟩
      have Ns:=bD hv;obtain⟨hvL,Nr⟩:=ju v Ns;obtain⟨qk,rfl⟩:=hH.pos (el:=3) (sz:=1) (q:=m2) (n:=x.up.length);refine gh ?_;refine GX.next rfl (GO.cT (hv:=show(aG ((x.up.take k).map (cz G.list)++x.up.drop k))[k]?=some (iV v) by rw[aG,gG,iD (by simp;omega)];simp[hv,pC cV]) (h:=gh ?_));refine GC.br (pl:=(bg [0,3,6,9,12,18,21,24,27,16,31,33,38])) (T:=fun _=>False) (hm:=mixed) (h:=fun w hE hH=>gh ?_);refine GX.pure rfl (GO.l4 rfl rfl rfl rfl (by decide) (by decide) rfl (gh ?_));refine GX.read rfl (GO.lC (hv:=Nr) (h:=gh ?_));refine GX.Ga (j:=0+((k:Nat):Int).toNat*1) (hj:=by simp[aG];omega) (h:=fun w hH=>gh ?_);rw[show 0+((k:Nat):Int).toNat*1=k by simp,show(aG ((x.up.take k).map (cz G.list)++x.up.drop k)).set k (iV (cz G.list v))=aG ((x.up.take (k+1)).map (cz G.list)++x.up.drop (k+1)) by rw[←VT hv];simp[aG,pG]] at hH;exact GQ.bj (k+1) rfl ⟨by omega,hH.to⟩ ah
     ·obtain rfl:k=x.up.length:=by omega
      rw[fw (aY _),mm (aY _),fB] at hH;refine gh ?_;refine GQ.bj 2 rfl ⟨by omega,?_⟩ ah;dsimp only[nB,nf,nI,u9];simp only[xR,aY,if_true,Nat.reduceLeDiff,fH];exact hH.to
   ·obtain rfl:e=2:=by omega
    have e2:xR (cz G.list) 2 x=kV (cz G.list) x:=rfl;rw[e2] at hH;subst hBg;replace hH:=SH.Pz (D:=(D.take r).map (fun p=>(p.1,kV (cz G.list) p.2))++D.drop r) (i:=r) (by simp;omega) hH;rw[ah2 fU] at hH;refine gh ?_;exact GQ.bj (r+1) rfl ⟨by omega,hH.to⟩ ah
  ·obtain rfl:r=D.length:=by omega
   rw[fw (aY _),mm (aY _),fB] at hH;refine gh ?_;refine GX.dC (h:=fun w hH=>gh ?_);have cV:∀y∈f' G.list,y.key.length<2^40:=fun y hy=>by
    have:=dM (hi.pack.keys y hy);omega
   have adZ:((f' G.list).map (·.key)).Nodup:=List.Nodup.sublist ah3 hn;have jy:f' G.list=(D.map fun p=>(p.1,kV (cz G.list) p.2)).map (·.2):=by unfold f';rw[←pd];simp
   have Tt:(f' G.list).length=D.length:=by rw[jy];simp
   have hz:zO (D.map fun p=>(p.1,kV (cz G.list) p.2))=sA (D.map (·.1)) (f' G.list):=by
    rw[Gp,jy];congr 1;exact Yx D
   rw[hz,show D.map (fun p=>p.1.b)=(D.map (·.1)).map (·.b) by simp,←Tt] at hH;replace hH:=SH.fold (f:=fun X:{ X:vF // X.M.length=(f' G.list).length}=>DI g { G with list:=f' G.list} X.1) ⟨⟨(q1,c1),cb,cc,D.map (·.1)⟩,by simp[Tt]⟩ hH;replace hH:SH o w [jr g { G with list:=f' G.list}]:=hH.to (s:=[star fun X:{ X:vF // X.M.length=(f' G.list).length}=>DI g { G with list:=f' G.list} X.1]);refine GX.bZ (hc:=fun _ hs=>ace (G:={ G with list:=f' G.list}) adZ eH (fun x hx=>cV x hx) G.cells.length (by show(f' G.list).length<_;omega) hC hs) (h:=?_);rintro⟨_,cs⟩ w ⟨h1,h2⟩ hH;replace hH:=SH.ap hH;refine gh ?_;exact⟨cs,rfl,⟨h1,h2⟩,hH⟩
theorem Pc {o:Og}{w:World}{g:Nat}{G:Gr}(hs:Start o w [fz (jr g G)]):∃ow ol al cl cb cc bs,GM w g G ow ol al cl cb cc bs:=by
 obtain⟨rfl,⟨F1,F2,e,_,⟨⟨F',Z',_,_,h1⟩,_⟩,_⟩,_⟩:=hs;obtain⟨ow,ol,al,cl,cb,cc,bs,k1,_⟩:=Lt h1;exact⟨ow,ol,al,cl,cb,cc,bs,k1⟩
theorem acf {o:Og}{w:World}{g:Nat}{G:Gr}(hn:G.cM≠0)(a b:Bs)(hs:Start o w [fz (jr g G)]) :
  aj prog 191 [ak g,str a,str b].toArray w (Po o (iV (if bf a&&bf b then 0 else 2)) []):=by
 obtain⟨ow,ol,al,cl,cb,cc,bs,hG⟩:=Pc hs;refine(Lp hG hn a b).mono ?_;rintro v w' ⟨rfl,rfl⟩;exact⟨rfl,hs.sh.to⟩
theorem ach {o:Og}{w:World}{g:Nat}{G:Gr}(hi:xD G)(a b:Bs)(ha:a.length<2^40)(hb:b.length<2^40)(hs:Start o w [fz (jr g G)]) :
  aj prog 192 [ak g,str a,str b].toArray w (aX o (fun z:Bool => .bool z) (fun z=>z=true↔fm G a b) (fun _=>[])):=by
 obtain⟨ow,ol,al,cl,cb,cc,bs,hG⟩:=Pc hs;refine(Sd hG hi a b ha hb).mono ?_;rintro v w' ⟨⟨z,rfl,hz⟩,hE⟩;exact⟨z,rfl,hz,(hs.sh.ext hE).to⟩
theorem Rw {o:Og}{w:World}{g:Nat}{G:Gr}(aU:ir G)(k:Bs)(hk:k.length<2^40)(hs:Start o w [fz (jr g G)]) :
  aj prog 194 [ak g,str k].toArray w (aX o (fun z:Int=>iV z) (fun z=>KE G k z) (fun _=>[])):=by
 obtain⟨ow,ol,al,cl,cb,cc,bs,hG⟩:=Pc hs;refine(xQ hG aU k hk).mono ?_;rintro v w' ⟨⟨z,rfl,hz⟩,hE⟩;exact⟨z,rfl,hz,(hs.sh.ext hE).to⟩
theorem Q2 {o:Og}{w:World}{l:List Nat}{x q c:Nat}(hx:x∈l)(hl:l.length<2^40)(hs:Start o w [aq 3 1 (some q) l.length c (aG l)]) :
  aj prog 265 [.slice (aA (some q)) l.length c,iV x].toArray w (Po o (.slice (aA (some q)) (l.filter (·≠x)).length c) [aq 3 1 (some q) (l.filter (·≠x)).length c (aG (l.filter (·≠x)))]):=by
 have hH:=hs.sh;have hO:=hH.cZ;refine(aaU l x hx hl w hO).mono ?_;rintro v w' ⟨⟨rfl,j6⟩,hm⟩;exact⟨rfl,hH.lG bA.here (fun _=>j6) (hm.weaken fun k _ hk=>by rw[hk]) fun _ h => .inl h⟩
def dX.del (A:dX)(p c:Bs):dX:={ A with E:=fun u v=>A.E u v∧¬(u=p∧v=c)}
open Classical in
noncomputable def dX.zr (A:dX)(p c:Bs):Bool:=decide (A.E p c)
def Hj (p c:Bs):Int:=if bf p&&bf c then 0 else 2
theorem ah5 {L:List Nd}{s:Nat}(h:∀x∈L,x.mark≤s):∀x∈f' L,x.mark≤s:=fun x hx=>by
 unfold f' at hx;obtain⟨y,hy,rfl⟩:=bG.1 hx;exact h y (fR.1 hy).1
theorem ah4 (L:List Nd):(f' L).length≤L.length:=by unfold f';rw[fH];exact pF _ _
theorem aiE {G H:Gr}{A:dX}(hA:vE G A){a b:Nat}{xa xb yb:Nd}(ha:G.list[a]?=some xa)(hb:(G.list.set a { xa with down:=xa.down.filter (·≠b)})[b]?=some xb)(eT:G.list[b]?=some yb)(hm:b∈xa.down)
  (hl:H.list=f' (im G.list a b xa xb)) (hc:ir H) (gO:H.cells.length=G.cells.length) (h1:H.cM=G.cM) (h2:H.dg=G.dg) (h3:H.cp+1=G.cp) (h4:H.cW=G.cW):vE H (A.del xa.key yb.key):=by
 have hi:=hA.inv;have hu:=hi.nodes.im ha hb;have hp:=hu.pack;have uQ:jZ H+1=jZ G:=by
  rw[vL,vL,hl,ah1];exact alX ha hb (hi.nT _ (bD ha)) hm
 have hlen:H.list.length≤G.list.length:=by
  rw[hl];refine dF (ah4 _) ?_;simp[im]
 have iO:∀x∈im G.list a b xa xb,x.mark≤G.cW:=fun x hx=>by
  obtain⟨j,hj⟩:=ey hx;obtain⟨z,hz,rfl⟩:=vn ha hb hj;exact hi.marks z (bD hz)
 rw[←hl] at hp;have RJ:=hi.len;have hGm:=hi.eZ.mx;have mG:∀x∈H.list,x.down.length≤H.list.length:=fun x hx=>by
  obtain⟨j,hj⟩:=ey hx;exact Cx (hp.nT x hx) (hp.down j x hj)
 refine⟨⟨⟨hc,by rw[h1];exact hGm,hp.down,fun j x hj=>?_⟩,?_,hp.nJ,hp.pj,hp.nT,hp.mi,by rw[h1];omega,?_,?_,?_,hp.keys,?_⟩,h1.trans hA.cM,h2.trans hA.dg,?_,by rw[h4];exact hA.K⟩
 ·have hx:=bD hj;have:=mG x hx;have:=dM (hp.keys x hx);exact⟨by omega,by omega⟩
 ·have:=hi.cells;unfold xB at this ⊢;rw[gO];exact this
 ·have:=hi.zt;omega
 ·have:=hi.cp;rw[h2];omega
 ·rw[hl];exact ah6
 ·rw[hl,h4];exact ah5 iO
 ·funext u v;show fm H u v=(A.E u v∧¬(u=xa.key∧v=yb.key));rw[←hA.E];refine propext ?_;rw[hu.ahZ (G:={ G with list:=im G.list a b xa xb}) rfl hl];exact alW ha hb rfl rfl hi.eZ.ok eT
theorem Yy {M:List Nx}{L:List Nd}{i:Nat}{m:Nx}{x y:Nd}(h:(M.zip L)[i]?=some (m,x)):(M.zip L).set i (m,y)=M.zip (L.set i y):=by
 obtain⟨h1,h2⟩:=List.getElem?_zip_eq_some.1 h;apply pB;intro j
 by_cases e:i=j
 ·subst e;have hl:=(aV.1 h).1;rw[dE hl]
  symm
  rw[List.getElem?_zip_eq_some];exact⟨h1,dE (aV.1 h2).1⟩
 ·rw[dv e];apply Option.ext;rintro⟨p,q⟩;rw[List.getElem?_zip_eq_some,List.getElem?_zip_eq_some,dv e]
theorem agB {G:Gr}(hi:jM G){a b:Nat}{xa:Nd}(ha:G.list[a]?=some xa)(hm:b∈xa.down):1≤G.cp:=by
 have h1:=hi.zt;have cj:=(aV.1 ha).1;have h2:=Hm (G:=G) (l:=[a]) (by simp) (by simpa using cj);simp[lT,ha] at h2;have:=tX hm;omega
theorem kG.lens {L:List Nd}(h:kG L):∀x∈L,x.down.length≤L.length∧x.up.length≤L.length:=fun x hx=>by
 obtain⟨j,hj⟩:=ey hx;exact⟨Cx (h.nT x hx) (h.down j x hj),Cx (h.mi x hx) (h.nJ j x hj)⟩
theorem ir.ae5 {G:Gr}(h:ir G):(G.list.map (·.key)).Nodup∧G.list.length<G.cells.length:=by
 constructor
 ·exact h.nodup
 ·have h1:=h.eM.room;simpa[fq,fx] using h1
theorem acn {o:Og}{w:World}{g:Nat}{A:dX}(p c:Bs)(hs:Start o w [gL g A]) :
  aj prog 185 [ak g,str p,str c].toArray w (Po o (.tuple #[.bool (A.zr p c),iV (Hj p c)]) [gL g (A.del p c)]):=by
 obtain⟨⟨G,hA⟩,hs⟩:=Start.un hs;replace hs:Start o w [jr g G]:=hs;have hi:=hA.inv;have fU:=hi.eZ.mx;have hH:=hs.sh;refine aj.enter func185 rfl ntmps185 rfl (gh ?_);have none:¬A.E p c→A.zr p c=false∧A.del p c=A:=fun h=>⟨by unfold dX.zr;simp[h],by
  unfold dX.del;have:(fun u v=>A.E u v∧¬(u=p∧v=c))=A.E:=by
   funext u v;refine propext ⟨And.left,fun h1=>⟨h1,?_⟩⟩;rintro⟨rfl,rfl⟩;exact h h1
  rw[this]⟩
 have RE:A.E p c→bf p=true∧bf c=true:=fun h=>by
  rw[←hA.E] at h;obtain⟨a,b,x,y,h1,rfl,_,h4,rfl⟩:=h;exact⟨hi.keys x (bD h1),hi.keys y (bD h4)⟩
 refine GX.aM (hc:=fun _ hs=>acf (G:=G) ah p c hs) (h:=fun w hE hH=>gh ?_)
 by_cases aU:(bf p&&bf c)=true
 ·have rZ:=aU;rw[qA] at rZ;have kp:=dM rZ.1;have kc:=dM rZ.2;rw[if_pos aU];refine gh ?_;refine GX.ef (hc:=fun _ hs=>ach hi.eZ p c ah ah hs) (h:=?_);rintro z w hz hE hH;replace hH:=SH.ap hH;rw[hA.E] at hz;cases z with
  |false=>
   refine gh ?_;obtain⟨e1,e2⟩:=none (fun h=>by have:=hz.2 h;cases this);rw[e1,e2,show Hj p c=0 from if_pos aU];exact⟨rfl,zx hA hH⟩
  |true=>
   have hE:=hz.1 rfl;refine gh ?_;refine GX.ef (hc:=fun _ hs=>Rw hi.eZ.ok p ah hs) (h:=?_);rintro za w Fh cX hH;replace hH:=SH.ap hH;refine gh ?_;refine GX.ef (hc:=fun _ hs=>Rw hi.eZ.ok c ah hs) (h:=?_);rintro zb w wG dx hH;replace hH:=SH.ap hH;have RC:=hE;rw[←hA.E] at RC;obtain⟨a,b,xa,yb,ha,rfl,hm,eT,rfl⟩:=RC;obtain rfl:za=a:=by
    rcases Fh with⟨_,h⟩|⟨n,x,rfl,hx,hk⟩
    ·exact absurd (bG.2 ⟨xa,bD ha,rfl⟩) h
    ·rw[key_inj hi.eZ.ok hx ha hk]
   obtain rfl:zb=b:=by
    rcases wG with⟨_,h⟩|⟨n,x,rfl,hx,hk⟩
    ·exact absurd (bG.2 ⟨yb,bD eT,rfl⟩) h
    ·rw[key_inj hi.eZ.ok hx eT hk]
   have cj:=(aV.1 ha).1;have fD:=(aV.1 eT).1;obtain⟨_,hd⟩:=hi.lT;obtain⟨mG,_⟩:=hd xa (bD ha);obtain⟨⟨⟨⟨q,cq⟩,cb,cc,M⟩,hM⟩,hH⟩:=SH.un hH;replace hH:=SH.ap hH;dsimp only at hH;dsimp only[Bv,Bt,Bu] at hH hM;rw[Gp] at hH;obtain⟨ma,xa',qP,Tc,Fh⟩:=KB hM cj;rw[ha] at qP;cases qP;obtain⟨mb,yb',TY,MU,wG⟩:=KB hM fD;rw[eT] at TY;cases TY;obtain⟨ab,⟨a1,YS⟩,a2,YT⟩:=ma;obtain⟨qb,rfl⟩:=hH.pos (el:=266) (sz:=1) (q:=q);replace hH:=hH.KA Fh;dsimp only[nB,nf,nI,u9] at hH;have hdp:=tX hm;obtain⟨qa,rfl⟩:=hH.pos (el:=3) (sz:=1) (q:=a1);refine gh ?_;refine GC.br (pl:=(bg [0,3,6,12,21,24,27,30,36,57,10,15,19,63,66,34,39,43,45,48,51,55,62,69,74])) (T:=dt [g,qb,ab]) (hm:=mixed) (h:=fun w hE hH=>gh ?_);refine GX.read rfl (GO.lC (hT:=tL) (hv:=show(bq (M.map (·.b)))[a]?=some (ak ab) by simp[bq,Tc]) (h:=gh ?_));refine GX.read rfl (GO.lC (hT:=tL) (hv:=show(bq (M.map (·.b)))[a]?=some (ak ab) by simp[bq,Tc]) (h:=gh ?_));refine GX.pure rfl (GO.l4 rfl rfl rfl rfl (by decide) (by decide) rfl (gh ?_));refine GX.mZ (hc:=fun _ hs=>Q2 hm ah hs) (h:=fun w hS hH=>gh ?_);refine GX.pure rfl (GO.l4 rfl rfl rfl rfl (by decide) (by decide) rfl (gh ?_));refine GX.fO (h:=fun w hH=>gh ?_);replace hH:=SH.Pz (D:=M.zip G.list) (i:=a) (m:=⟨ab,(some qa,YS),a2,YT⟩) (x:={ xa with down:=xa.down.filter (·≠b)}) (aV.1 Fh).1 hH;rw[Yy Fh] at hH;have vW:M.length=(G.list.set a { xa with down:=xa.down.filter (·≠b)}).length:=by simpa using hM
   obtain⟨mb,xb,hb,MU,wG⟩:=KB vW (i:=b) (by simpa using fD);have sj:a∈xb.up∧xb.up.length≤65536:=by
    have h1:=(hi.pj a b xa yb ha eT).1 hm;have h2:=(hd yb (bD eT)).2
    by_cases e:a=b
    ·subst e;rw[dE cj] at hb;cases hb;rw[ha] at eT;cases eT;exact⟨h1,h2⟩
    ·rw[dv e,eT] at hb;cases hb;exact⟨h1,h2⟩
   obtain⟨bb,⟨b1,Zl⟩,b2,Zm⟩:=mb;replace hH:=hH.KA wG;dsimp only[nB,nf,nI,u9] at hH;have E':=sj.2;have qV:=agB hi ha hm;have amH:=hi.cp;have am3:=tX sj.1;obtain⟨qc,rfl⟩:=hH.pos (el:=3) (sz:=1) (q:=b2);refine gh ?_;refine GC.br (pl:=(bg [0,3,6,12,21,24,27,30,36,57,10,15,19,63,66,34,39,43,45,48,51,55,62,69,74])) (T:=dt [g,qb,bb]) (hm:=mixed) (h:=fun w hE hH=>gh ?_);refine GX.read rfl (GO.lC (hT:=tL) (hv:=show(bq (M.map (·.b)))[b]?=some (ak bb) by simp[bq,MU]) (h:=gh ?_));refine GX.read rfl (GO.lC (hT:=tL) (hv:=show(bq (M.map (·.b)))[b]?=some (ak bb) by simp[bq,MU]) (h:=gh ?_));refine GX.pure rfl (GO.l4 rfl rfl rfl rfl (by decide) (by decide) rfl (gh ?_));refine GX.mZ (hc:=fun _ hs=>Q2 sj.1 ah hs) (h:=fun w hS hH=>gh ?_);refine GX.pure rfl (GO.l4 rfl rfl rfl rfl (by decide) (by decide) rfl (gh ?_));refine GX.fO (h:=fun w hH=>gh ?_);replace hH:=SH.Pz (D:=M.zip (G.list.set a { xa with down:=xa.down.filter (·≠b)})) (i:=b) (m:=⟨bb,(b1,Zl),some qc,Zm⟩) (x:={ xb with up:=xb.up.filter (·≠a)}) (aV.1 wG).1 hH;rw[Yy wG,←Gp] at hH;refine GX.dC (h:=fun w hH=>gh ?_);have uS:(im G.list a b xa xb).length=G.list.length:=by simp[im]
   rw[show((G.cp:Int) - 1)=((G.cp - 1:Nat):Int) by omega,←uS] at hH;have hu:=hi.nodes.im ha hb;replace hH:=SH.fold (f:=fun X:{ X:vF // X.M.length=(im G.list a b xa xb).length}=>DI g { G with list:=im G.list a b xa xb,cp:=G.cp - 1} X.1) ⟨⟨(some qb,cq),cb,cc,M⟩,by rw[uS];exact hM⟩ hH;replace hH:SH o w [jr g { G with list:=im G.list a b xa xb,cp:=G.cp - 1}]:=hH;have iN:=hi.eZ.ok.ae5;have lA:=hi.len;have gO:=hi.cells.2;refine gh ?_;refine GX.bZ (hc:=fun _ hs=>ah7 (G:={ G with list:=im G.list a b xa xb,cp:=G.cp - 1}) hu (by show(im G.list a b xa xb).length≤_;omega) (fun x hx=>by have:=hu.lens x hx;rw[uS] at this;omega) (by show((im G.list a b xa xb).map (·.key)).Nodup;rw[alY ha hb];exact iN.1) hi.eZ.ok.aJ (by show(im G.list a b xa xb).length<G.cells.length;have:=iN.2;omega) (by show G.cells.length<_;omega) hs) (h:=?_);rintro cs w ⟨Ef,uA⟩ hH;replace hH:=SH.ap hH;refine gh ?_;rw[show A.zr xa.key yb.key=true by unfold dX.zr;simpa using hz,show Hj xa.key yb.key=0 from if_pos aU];exact⟨rfl,zx (aiE hA ha hb eT hm rfl Ef uA rfl rfl (by show G.cp - 1+1=_;omega) rfl) hH⟩
 ·obtain⟨e1,e2⟩:=none (fun h=>aU (by rw[(RE h).1,(RE h).2];rfl));rw[if_neg aU];refine gh ?_;rw[e1,e2,show Hj p c=2 from if_neg aU];exact⟨rfl,zx hA hH⟩
end
section
structure Lv where
 l:List Bs
 q:Option Nat×Nat
def Co (y:Lv):Value := .slice (aA y.q.1) y.l.length y.q.2
def ph (L:List Lv):List Value:=L.map Co
def iZ (L:List Lv):List Bs:=(L.map (·.l)).flatten
def eX (L:List Lv):It where
 ok w Z F:=(∀y∈L,bN w (aA y.q.1) (aK y.l)∧(aK y.l≠[]→∀x,aA y.q.1=some x→Z x.block))∧F=fun _=>False
 mod:=fun⟨h,e⟩ hm hn hZ=>⟨fun y hy=>⟨by
  by_cases hc:aK y.l=[]
  ·rw[hc];exact bN.empty _ _
  ·exact(h y hy).1.mod hm fun x hx=>hn _ (.inr ((h y hy).2 hc x hx)),fun hc x hx=>hZ _ ((h y hy).2 hc x hx)⟩,e⟩
 lt:=fun⟨_,e⟩ hb=>by rw[e] at hb;exact hb.elim
instance {L:List Lv}:Vw (eX L) (eX L):=⟨fun w Z F ⟨h,_⟩ hz=>⟨fun y hy=>⟨(h y hy).1,fun hc x hx=>hz _ ((h y hy).2 hc x hx)⟩,rfl⟩⟩
theorem SH.Rn {o:Og}{w:World}{l:List It}(h:SH o w l):SH o w (eX []::l):=by
 obtain⟨Z,F,hu,h1,h2,h3⟩:=h;exact⟨Z,F,hu,⟨fun _=>False,F,by simp,fun _ h=>h.elim,⟨fun _ h=>by(cases h),rfl⟩,h1⟩,h2,h3⟩
theorem SH.abP {o:Og}{w:World}{l r:List It}{L:List Lv}{y:Lv}(hy:y∈L)(h:SH o w l)(hs:az (eX L) l r:=by repeat(first|exact az.here|apply az.there)):SH o w (aF (aA y.q.1) (aK y.l)::l):=by
 obtain⟨Z,F,hu,⟨F1,F2,rfl,hd,h1,h2⟩,h3,h4⟩:=h.perm hs.perm;refine SH.perm (l:=aF (aA y.q.1) (aK y.l)::eX L::r) ⟨Z,fun b=>F1 b∨F2 b,hu,⟨fun _=>False,_,by simp,fun _ h=>h.elim,⟨(h1.1 y hy).1,(h1.1 y hy).2,rfl⟩,F1,F2,rfl,hd,h1,h2⟩,h3,h4⟩ (List.Perm.cons _ hs.perm.symm)
theorem SH.abQ {o:Og}{w:World}{l r:List It}{L:List Lv}{y:Lv}(h:SH o w l)(hp:Pk l [eX L,aF (aA y.q.1) (aK y.l)] r:=by repeat(first|exact Pk.nil|(apply Pk.cons;repeat(first|exact az.here|apply az.there)))):SH o w (eX (L++[y])::r):=by
 obtain⟨Z,F,hu,⟨F1,F2,rfl,hd,h1,F3,F4,rfl,fE,k1,k2⟩,h3,h4⟩:=h.perm hp.perm;have e1:F1=fun _=>False:=h1.2
 have e3:F3=fun _=>False:=k1.2.2
 subst e1 e3;refine⟨Z,fun b=>False∨False∨F4 b,hu,⟨fun _=>False,F4,by funext b;simp,fun _ h=>h.elim,⟨fun z hz=>?_,rfl⟩,k2⟩,h3,h4⟩
 rcases cx.1 hz with hz|hz
 ·exact h1.1 z hz
 ·simp at hz;subst hz;exact⟨k1.1,k1.2.1⟩
attribute [local irreducible] GX GO
attribute [local irreducible] aB aq aS aF fz star eX
theorem ack {o:Og}{w:World}(n:Nat)(hn:n<2^40)(hs:Start o w []) :
  aj prog 363 [.slice none 0 0,iV n].toArray w (aX o (fun y:Option Nat×Nat => .slice (aA y.1) 0 y.2) (fun _=>True) (fun y=>[aq 9 1 y.1 0 y.2 []])):=by
 have hH:=hs.sh;refine aj.enter func363 rfl ntmps363 rfl (gh ?_);refine GX.next rfl (GO.GZ rfl rfl rfl rfl (gh ?_));rw[show(n:Int) - (((0:Nat):Int) - ((0:Nat):Int))=(n:Int) by omega];refine gh ?_;refine ifs (fun h1=>?_) (fun h1=>?_)<;>refine gh ?_
 ·refine GX.next rfl (GO.GZ rfl rfl rfl rfl (gh ?_));refine GX.next rfl (GO.AP (j:=0) rfl (hh:=gh ?_));refine GX.KS (a:=none) (len:=0) (olds:=[]) (hA:=bN.nil _) (hl:=rfl) (h:=fun b' c' w' zs hz hE hH=>gh ?_);refine GX.K9 (q:=some b') (c:=0) (h:=fun hH=>gh ?_);exact⟨(some b',c'),rfl,trivial,by simpa using hH.to⟩
 ·obtain rfl:n=0:=by omega
  have aQ:=SH.cF (el:=9) (sz:=1) (q:=none) (n:=0) (c:=0) (cs:=[]) hH (Mod.refl w) (fun _ h=>by cases h) (aH.nil _ _ _);refine gh ?_;exact⟨(none,0),rfl,trivial,aQ.to⟩
theorem aaA {o:Og}{w:World}{L:List Lv}{n c:Nat}{q:Option Nat}(hn:L.length=n)(hl:n<2^32)(hx:∀y∈L,y.l.length<2^32)(hc:(iZ L).length<2^32)(hs:Start o w [fz (aq 22 1 q n c (ph L)),eX L]) :
  aj prog 320 [.slice (aA q) n c].toArray w (aX o (fun y:Option Nat×Nat => .slice (aA y.1) (iZ L).length y.2) (fun _=>True) (fun y=>[aq 9 1 y.1 (iZ L).length y.2 (aK (iZ L))])):=by
 have hH:=hs.sh;refine aj.enter func320 rfl ntmps320 rfl (gh ?_);have uQ:∀i,(iZ (L.take i)).length≤(iZ L).length:=fun i=>by
  unfold iZ
  conv=>rhs;rw[←jW i L]
  rw[eA,A0,bH];omega
 have wv:∀i y,L[i]?=some y→iZ (L.take (i+1))=iZ (L.take i)++y.l:=fun i y hy=>by
  unfold iZ;rw[gv,hy];simp
 refine GC.bR [0,9,10] (fun i:Nat=>[(3,iV (iZ (L.take i)).length),(11,iV i)]) (fun i w'=>i≤n∧SH o w' [fz (aq 22 1 q n c (ph L)),eX L]) (fun i=>n - i) 0 rfl rfl ⟨bh _,hH⟩ ?_
 ·rintro i w ⟨hi,hH⟩;refine gh ?_;refine ifs (fun h1=>?_) (fun h1=>?_)<;>refine gh ?_
  ·obtain⟨y,hy⟩:∃y,L[i]?=some y:=⟨_,bO ah⟩
   obtain⟨qb,rfl⟩:=hH.l8 (el:=22) (sz:=1) (q:=q) (n:=n);have h2:=hx y (bD hy);have h3:=uQ i;have h4:=wv i y hy;refine gh ?_;refine GX.next rfl (GO.cT (hv:=show(ph L)[i]?=some (Co y) by simp[ph,hy]) (h:=gh ?_));refine GQ.bj (i+1) (by rw[h4,bH];rfl) ⟨by omega,hH⟩ ah
  ·obtain rfl:n=i:=by omega
   rw[fw ah];refine gh ?_;refine GX.bZ (hc:=fun _ hs=>ack (iZ L).length ah hs) (h:=?_);rintro⟨q1,c1⟩ w _ hH;replace hH:=SH.ap hH;refine gh ?_;refine GC.bR [25,26] (fun y:Nat×Option Nat×Nat=>[(6, .slice (aA y.2.1) (iZ (L.take y.1)).length y.2.2),(27,iV y.1)]) (fun y w'=>y.1≤n∧SH o w' [aq 9 1 y.2.1 (iZ (L.take y.1)).length y.2.2 (aK (iZ (L.take y.1))),fz (aq 22 1 q n c (ph L)),eX L]) (fun y=>n - y.1) (0,q1,c1) rfl rfl ⟨bh _,hH.to⟩ ?_;rintro⟨i,q2,c2⟩ w ⟨hi,hH⟩;dsimp only at hi hH ⊢;refine gh ?_;refine ifs (fun h2=>?_) (fun h2=>?_)<;>refine gh ?_
   ·obtain⟨y,hy⟩:∃y,L[i]?=some y:=⟨_,bO ah⟩
    obtain⟨qb,rfl⟩:=hH.l8 (el:=22) (sz:=1) (q:=q) (n:=n);have h2:=hx y (bD hy);have h3:=uQ i;have h4:=wv i y hy;refine gh ?_;refine GX.next rfl (GO.cT (hv:=show(ph L)[i]?=some (Co y) by simp[ph,hy]) (h:=gh ?_));replace hH:=hH.abP (bD hy);refine GX.pQ (q:=q2) (m2:=y.l.length) (c2:=y.q.2) (news:=aK y.l) (hN:=SH.bL hH (x:=aF (aA y.q.1) (aK y.l)) (a:=aA y.q.1) (cs:=aK y.l) bP) (hnl:=by simp[aK]) (h1:=yU _) (h:=fun q' c' w' hH=>gh ?_);refine GQ.bj (i+1,q',c') (by dsimp only;rw[h4,bH];rfl) ⟨by dsimp only;omega,?_⟩ (by dsimp only;omega);dsimp only;rw[h4,bH,show aK (iZ (L.take i)++y.l)=aK (iZ (L.take i))++aK y.l by simp[aK]];exact hH.to
   ·obtain rfl:i=n:=by omega
    rw[fw ah] at hH ⊢;refine gh ?_;exact⟨(q2,c2),rfl,trivial,hH.to⟩
end
end Go.Proofs.YtoloaehmppcjoaaGreat.V.M
