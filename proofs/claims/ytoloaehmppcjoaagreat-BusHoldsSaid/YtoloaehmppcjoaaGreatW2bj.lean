/-
  Parts of the proof. No condition.
-/
import Derived.Test.YtoloaehmppcjoaaGreatW2bi
set_option linter.unusedVariables false
set_option linter.unusedSimpArgs false
set_option maxRecDepth 8000
set_option maxHeartbeats 8000000
open Go.Proofs.Tryz
namespace Go.Proofs.YtoloaehmppcjoaaGreat.V.M
section
attribute [local irreducible] GO GX
section
variable {P:Program}{ops:Array Oper}{Q:Exit→Act→World→Prop}{S:World→Prop}{n:Nat}
variable {i m:Nat}{p:b6}{e:Env}{w:World}{k:Kd}{dst:Option Tmp}{ty:TypeId}{pos:String}{an:Array Edge}{g:Option (Nat×Bool)}
variable {og:Og}{l r l':List It}{b:Nat}
theorem ai1 {t el:TypeId}{sz aT:Nat}(hf:cr P t el sz aT){b1 o1:Nat}{a2:Option Addr}{len m c2:Nat}{cs news:List Value}(hA:At w b1 o1 cs)(hl:cs.length=len*sz)(hN:bN w a2 news)(hnl:news.length=m*sz)
  (hb:(len+m)*aT≤140737488355328) (hm:len+m≤140737488355328) (hz:0<sz) (p8:0<m) :
  ∃b' c' w',(Builtin.append_ #[t,t] ty #[.slice (some ⟨b1,o1,none⟩) len len, .slice a2 m c2]).run P w = .ok (.slice (some ⟨b',0,none⟩) (len+m) c') w'∧aH w' el sz (some b') (some ⟨b',0,none⟩) (len+m) c' (cs++news)∧Ext w w'∧w.heap.size≤b':=by
 obtain⟨hu,ii,z,hi,kf,hs,mF,iR⟩:=hf.facts;have zX:0<news.length:=by rw[hnl];exact Nat.mul_pos p8 hz
 obtain⟨b2,o2,rfl,vX⟩:=hN.sC zX;have oo:∀j u,news[j]?=some u→w.cell? ((⟨b2,o2,none⟩:Addr).add j)=some u:=fun j u hu=>by rw[iY];exact vX j u hu
 subst hs;subst mF;have hr:=run_append_grow (P:=P) w t ty el ii z hu hi kf ⟨b1,o1,none⟩ len len cs hl (fun j u hu=>by rw[iY];exact hA j u hu) ⟨b2,o2,none⟩ m c2 news hnl oo ah ah (growslice_fits ah hb);refine⟨w.heap.size,_,_,hr,aH.new ⟨by rw[bH,hl,hnl,jm], .inr ⟨w.heap.size,_,_,rfl,bh _,heap_alloc_new w.drew _,grownCap_ge w (len+m) len el,grownCap_le_maxLen w (len+m) len el (by unfold maxLen;omega),?_,?_⟩⟩,(Ext.drew w).trans (Ext.alloc w.drew _),aY _⟩
 ·have kQ:=grownCap_ge w (len+m) len el;simp only[Array.size_append,xu,size_zeroCells,iR,hl,hnl,←jm];congr 1;omega
 ·have hlen:(cs++news).length=(len+m)*ii.size:=by rw[bH,hl,hnl,jm]
  simp only[Array.toList_append,cS];rw[←cS,←hlen];exact vx
theorem GX.Ze [Fr]{T:Nat→Prop}{w0:World}{b1 o1:Nat}{x y:Operand}{t el:TypeId}{sz aT:Nat}{len m2 c2:Nat}{a2:Option Addr}{cs news:List Value}(hH:SH og w l:=by assumption)(hA:At w b1 o1 cs)(hN:bN w a2 news)
  (ho:ops[i]?=some ⟨dst, .call ⟨.builtin .append,#[x,y],#[t,t]⟩,ty,pos,an,g⟩:=by rfl) (hf:cr P t el sz aT:=by infer_instance) (hw:aI ops e ⟨dst, .call ⟨.builtin .append,#[x,y],#[t,t]⟩,ty,pos,an,g⟩=some true:=by rfl) (hx:ev e x=some (.slice (some ⟨b1,o1,none⟩) len len):=by rfl) (hy:ev e y=some (.slice a2 m2 c2):=by rfl) (hd:fits n dst=true:=by rfl)
  (hl:cs.length=len*sz) (hnl:news.length=m2*sz) (hz:Nat.blt 0 sz=true:=by rfl) (p8:0<m2:=by decide) (hb:(len+m2)*aT≤140737488355328:=by omega) (hm:len+m2≤140737488355328:=by omega) (hT:Mod T w0 w:=by first|assumption|exact Ext.mod (by assumption))
  (h:∀b' c' w',Mod T w0 w'→SH og w' (aq el sz (some b') (len+m2) c' (cs++news)::l)→GX P ops Q (Mod T w0) n p (e.put dst (.slice (aA (some b')) (len+m2) c')) w'):GX P ops Q (Mod T w0) n (.aw i p) e w:=by
 obtain⟨b',c',w1,h1,h2,h3,h4⟩:=ai1 (ty:=ty) (c2:=c2) hf hA hl hN hnl hb hm (by simpa using hz) p8;refine GX.aw ho (GO.run (R:=fun v w'=>v = .slice (some ⟨b',0,none⟩) (len+m2) c'∧w'=w1) hw hd (fun ac ha=>⟨_,_,w1,?_, .inl rfl,rfl,rfl⟩) ?_)
 ·simp[execOp,resolve,invoke,builtin,bE ha hx,bE ha hy,h1]
 ·rintro _ _ ⟨rfl,rfl⟩;exact⟨fun _ hS=>hS.trans h3.mod,h b' c' _ (hT.trans h3.mod) (hH.cF h3 (fun k hk=>by cases hk;exact h4) h2)⟩
theorem GX.Zh [Fr]{T:Nat→Prop}{w0:World}{x y:Operand}{t el:TypeId}{sz aT:Nat}{a2:Option Addr}{len cap m2 c2:Nat}{cs news:List Value}{qd:Option Nat→Nat→List It}(hH:SH og w l:=by assumption)(hN:bN w a2 news)(hT:T b)
  (ho:ops[i]?=some ⟨dst, .call ⟨.builtin .append,#[x,y],#[t,t]⟩,ty,pos,an,g⟩:=by rfl) (hf:cr P t el sz aT:=by infer_instance) (hw:aI ops e ⟨dst, .call ⟨.builtin .append,#[x,y],#[t,t]⟩,ty,pos,an,g⟩=some true:=by rfl) (hx:ev e x=some (.slice (aA (some b)) len cap):=by rfl) (hy:ev e y=some (.slice a2 m2 c2):=by rfl) (hd:fits n dst=true:=by rfl)
  (hz:Nat.blt 0 sz=true:=by rfl) (hnl:news.length=m2*sz) (h1:∀u∈news,u.oneCell'=true) (p8:Mod T w0 w:=by first|assumption|exact Ext.mod (by assumption)) (hr:∀q' c',bA (aq el sz (some b) len cap cs) (aq el sz q' (len+m2) c' (cs++news)) l (qd q' c'):=by intro _ _;repeat(first|exact bA.here|apply bA.there)) (hb:(len+m2)*aT≤140737488355328:=by omega) (hm:len+m2≤140737488355328:=by omega)
  (h:∀q' c' w',Mod T w0 w'→SH og w' (qd q' c')→GX P ops Q (Mod T w0) n p (e.put dst (.slice (aA q') (len+m2) c')) w'):GX P ops Q (Mod T w0) n (.aw i p) e w:=by
 obtain⟨_,hs,_⟩:=(hr none 0).perm;have hO:aH w el sz (some b) (aA (some b)) len cap cs:=let⟨_,_,h,_⟩:=(hH.perm hs).head;h;have D8:∀k,some k=some b→T k:=fun k hk=>by cases hk;exact hT
 refine GX.Bh hO hN D8 ho hw hx hy hd hz hnl h1 hb hm fun cQ a' c' w' j6 jw hn ha=>?_
 have e:a'=aA cQ:=wW j6 fun h0=>by
  cases qP:a' with
  |none=>rfl
  |some x=>
   rcases ha x qP with h2|⟨h2,h3⟩
   ·rw[h0] at h2;cases h2
   ·rw[h0] at h3;cases h3
 subst e;exact h cQ c' w' (p8.trans (jw.weaken fun k _ hk=>D8 k hk)) (hH.lG (hr cQ c') (fun _=>j6) (jw.weaken fun k _ hk=>hk) hn)
end
attribute [local irreducible] aB aq aS aF fz star
theorem wL (k:Bs)(v:Tn)(M:cy)(j:Bs):ay ((k,v)::M) j=if j=k then some v else ay M j:=rfl
theorem SH.wO {o:Og}{w:World}{l r:List It}{M:cy}(s:Bs)(x:Tn)(hH:SH o w l)(hp:Pk l [eU M,aB x.b [str x.e,uV x.n, .slice (aA x.q.1) x.ks.length x.q.2],aq 279 1 x.q.1 x.ks.length x.q.2 (bq (x.ks.map (·.2)))] r:=by repeat(first|exact Pk.nil|(apply Pk.cons;repeat(first|exact az.here|apply az.there)))) :
 SH o w (eU ((s,x)::M)::r):=hH.iI (kB (s,x)) _ hp (pD _)
theorem u7 {M:cy}{k j:Bs}(h:(M.map (·.1)).Nodup):j∈(bB M k).map (·.1)↔j≠k∧j∈M.map (·.1):=by
 rw[agQ h];simp only[bG,fR,oO];constructor
 ·rintro⟨x,⟨h1,h2⟩,rfl⟩;exact⟨h2,x,h1,rfl⟩
 ·rintro⟨h1,x,h2,rfl⟩;exact⟨x,⟨h2,h1⟩,rfl⟩
theorem tQ {T:cy}{r:Tn}(h:ay T []=some r):jh T=r.b:=by unfold jh;rw[h]
structure PK (T T':cy)(s e1:Bs)(bm:Nat):Prop where
 tt:TT T'
 num:∀t,bX (ay T') t=bX (ay T) t
 root:jh T'=jh T
 Jv:∃m,ay T' (s++e1)=some m∧m.b=bm
theorem ak0 {T:cy}(hT:TT T){s:Bs}{x y:Tn}(hx:ay T s=some x){i:Nat}{e1 e2:Bs}(he:x.ks[i]?=some (e1++e2,y.b))(h1:e1≠[])(h2:e2≠[])(hy:ay T (s++(e1++e2))=some y){bm:Nat}{q q':Option Nat×Nat} :
  PK T ((s++(e1++e2),{ y with e:=e2})::(s,{ x with ks:=x.ks.set i (e1,bm),q:=q})::(s++e1,⟨bm,e1,0,q',[(e2,y.b)]⟩)::bB (bB T s) (s++(e1++e2))) s e1 bm:=by
 obtain⟨hn,aU⟩:=hT.ok.split hx he h1 h2 hy (bm:=bm) (q:=q) (q':=q');have hP:=fun t=>ab9 (g:=ay T) (ks:=x.ks.set i (e1,bm)) (bm:=bm) (q:=q) (q':=q') (kk:=[(e2,y.b)]) hx hn hy t
 have mJ:s≠s++e1:=fun e=>h1 (by simpa using e)
 have oq:s≠s++(e1++e2):=fun e=>zj (b:=e2) h1 (by simpa using e)
 have uu:s++e1≠s++(e1++e2):=fun e=>h2 (by simpa using List.append_cancel_left e)
 have qY:=wP hT.nd s;have uK:=wP qY (s++(e1++e2));have hg:ay ((s++(e1++e2),{ y with e:=e2})::(s,{ x with ks:=x.ks.set i (e1,bm),q:=q})::(s++e1,(⟨bm,e1,0,q',[(e2,y.b)]⟩:Tn))::bB (bB T s) (s++(e1++e2)))=ew (ew (ew (ay T) s (some { x with ks:=x.ks.set i (e1,bm),q:=q})) (s++e1) (some ⟨bm,e1,0,q',[(e2,y.b)]⟩)) (s++(e1++e2)) (some { y with e:=e2}):=by
  funext t;rw[wL,wL,wL,iS qY,iS hT.nd];unfold ew
  by_cases a1:t=s++(e1++e2)
  ·simp only[if_pos a1]
  ·by_cases a2:t=s
   ·subst a2;simp only[if_neg a1,if_neg mJ,eq_self,if_true]
   ·by_cases a3:t=s++e1
    ·simp only[if_neg a1,if_neg a2,if_pos a3]
    ·simp only[if_neg a1,if_neg a2,if_neg a3]
 have dN:∀t,t∈(bB (bB T s) (s++(e1++e2))).map (·.1)↔t≠s++(e1++e2)∧t≠s∧t∈T.map (·.1):=fun t=>by
  rw[u7 qY,u7 hT.nd]
 refine⟨⟨by rw[hg];exact aU,?_⟩,fun t=>by rw[hg];exact hP t,?_,⟨bm,e1,0,q',[(e2,y.b)]⟩,by rw[hg,dD uu,gF],rfl⟩
 ·simp only[cJ,eQ,bU];refine⟨fun h=>?_,fun h=>?_,fun h=>?_,uK⟩
  ·rcases h with h|h|h
   ·exact oq h.symm
   ·exact uu h.symm
   ·exact((dN _).1 h).1 rfl
  ·rcases h with h|h
   ·exact mJ h
   ·exact((dN _).1 h).2.1 rfl
  ·exact wM.1 hn ((dN _).1 h).2.2
 ·obtain⟨r,hr,_⟩:=hT.ok.root;rw[tQ hr];have n1:([]:Bs)≠s++e1:=vc h1;have n2:([]:Bs)≠s++(e1++e2):=vc (zj h1)
  by_cases e:s=[]
  ·subst e;rw[hr] at hx;cases hx;rw[tQ (r:={ x with ks:=x.ks.set i (e1,bm),q:=q}) (by rw[hg,dD n2,dD n1,gF])]
  ·rw[tQ (r:=r) (by rw[hg,dD n2,dD n1,dD (Ne.symm e)];exact hr)]
theorem ajy {α:Type}(l:List α)(i:Nat)(x:α)(h:i<l.length):l.take i++[x]++l.drop (i+1)=l.set i x:=by
 rw[AZ,if_pos h];simp
theorem ak1 {o:Og}{w:World}{T:cy}(hT:TT T){s:Bs}{x:Tn}(hx:ay T s=some x){i:Nat}{e1 e2:Bs}{bk:Nat}(he:x.ks[i]?=some (e1++e2,bk))(h1:e1≠[])(h2:e2≠[])(hs:Start o w [eU T]) :
  aj prog 311 [ak x.b,iV i,iV (e1.length:Nat)].toArray w (aX o (fun y:Nat×cy=>ak y.1) (fun y=>PK T y.2 s e1 y.1) (fun y=>[eU y.2])):=by
 obtain⟨y,hy,fF,eT,aP,yi,_,hl⟩:=hT.jz hx he;have cV:=hT.kl hx;have eY:=(aV.1 he).1;have hH:=hs.sh.ve hx;have uW:ay (bB T s) (s++(e1++e2))=some y:=by rw[iS hT.nd,if_neg (Ne.symm yi)];exact hy
 replace hH:=hH.ve uW;have EB:=fun bm q q'=>ak0 hT hx (y:=y) (by rw[eT];exact he) h1 h2 hy (bm:=bm) (q:=q) (q':=q')
 obtain⟨xb,xe,xn,⟨q,d⟩,ks⟩:=x;obtain⟨yb,ye,yn,⟨yq,yd⟩,Kz⟩:=y;dsimp only at hH cV eY he fF eT EB hl ⊢;subst fF eT;rw[bH] at hl;obtain⟨b,rfl⟩:=hH.pos (el:=279) (sz:=1) (q:=q) (n:=ks.length);have H9:=hH.cap (el:=279) (sz:=1) (q:=some b) (n:=ks.length);refine aj.enter func311 rfl ntmps311 rfl (gh ?_);refine GX.next rfl (GO.cT (hv:=show(bq (ks.map (·.2)))[i]?=some (ak yb) by simp[bq,he]) (h:=gh ?_));refine GX.next rfl (Pe (e1++e2) rfl rfl rfl rfl rfl ah (by rw[bH];omega) ?_);rw[show(e1++e2).take ((e1.length:Nat):Int).toNat=e1 by simp];refine gh ?_;refine GX.oF (h:=fun bd w hH=>gh ?_);refine GX.cI (h:=fun bm w hH=>gh ?_);refine GX.next rfl (Gb (e1++e2) rfl rfl rfl rfl rfl ah (by rw[bH];omega) ?_);rw[show(e1++e2).drop ((e1.length:Nat):Int).toNat=e2 by simp];refine gh ?_;refine GX.dC (h:=fun w hH=>gh ?_);refine GC.br (pl:=(bg [0,3,6,9,15,18,24,33,36,39,45,48,13,21,43,51,29,32,56,57,60,65])) (T:=dt [xb]) (hm:=mixed) (h:=fun w hE hH=>gh ?_);refine GX.pure rfl (GO.ajE (h:=i) (c:=i) rfl (hh:=?_));rw[xl];refine gh ?_;refine GX.pure rfl (GO.kX (j:=i+1) rfl (hh:=gh ?_));refine GX.mg (h:=fun bl w hS hH=>gh ?_);have hA:At w b 0 (bq (ks.map (·.2))):=hH.es (b:=b) (cs:=bq (ks.map (·.2))) (by repeat(first|exact Es.sl|exact Es.lr|exact Es.lx|apply Es.there));refine GX.Ze (b1:=b) (o1:=0) (cs:=(bq (ks.map (·.2))).take i) (news:=[ak bm]) (hA:=At.left (m:=(bq (ks.map (·.2))).drop i) (by rw[jW];exact hA)) (hN:=SH.bL hH (x:=aq 279 1 (some bl) 1 1 [ak bm]) (a:=some ⟨bl,0,none⟩) bP) (hl:=by simp;omega) (hnl:=rfl) (h:=fun b2 c2 w hS hH=>gh ?_);have Ee:b2≠xb:=fun e=>by
  have:=hH.tI (b:=xb) (q:=some b2) (el:=279) (sz:=1) (n:=i+1);exact this (by rw[e])
 have hA:At w b 0 (bq (ks.map (·.2))):=hH.es (b:=b) (cs:=bq (ks.map (·.2))) (by repeat(first|exact Es.sl|exact Es.lr|exact Es.lx|apply Es.there));refine GX.Zh (b:=b2) (news:=(bq (ks.map (·.2))).drop (i+1)) (hN:=?_) (hT:=fun h=>Ee (by simpa using h)) (hnl:=by simp) (h1:=fun u hu=>CH _ u (xv hu)) (h:=fun q3 c3 w hS hH=>gh ?_)
 ·by_cases h3:i+1=ks.length
  ·rw[mm (by simp;omega)];exact bN.empty _ _
  ·rw[show fi (aA (some b)) (i+1) d 1=some ⟨b,i+1,none⟩ from mh b (i+1) d ah];have:=At.right (l:=(bq (ks.map (·.2))).take (i+1)) (m:=(bq (ks.map (·.2))).drop (i+1)) (by rw[jW];exact hA);rwa [dI,pC (by simp;omega),dz] at this
 refine GX.fO (h:=fun w hH=>gh ?_);rw[ajy _ _ _ (by simpa using eY),show i+1+(ks.length - (i+1))=(ks.set i (e1,bm)).length by simp;omega,show(bq (ks.map (·.2))).set i (ak bm)=bq ((ks.set i (e1,bm)).map (·.2)) by simp[bq,pG]] at hH;have aQ:=hH.wO (s++e1) ⟨bm,e1,0,(some bd,1),[(e2,yb)]⟩;have cH:=aQ.wO s ⟨xb,xe,xn,(q3,c3),ks.set i (e1,bm)⟩;have js:=cH.wO (s++(e1++e2)) ⟨yb,e2,yn,(yq,yd),Kz⟩;exact⟨(bm,_),rfl,EB bm (q3,c3) (some bd,1),js.to⟩
end
section
attribute [local irreducible] GO GX aB fz aF aS aq star
structure zf (T T':cy)(s:Bs):Prop where
 tt:TT T'
 num:∀t,bX (ay T') t=bX (ay T) t
 root:jh T'=jh T
 out:∀t,¬s <+: t→ay T' t=ay T t
theorem zf.refl {T:cy}(h:TT T)(s:Bs):zf T T s:=⟨h,fun _=>rfl,rfl,fun _ _=>rfl⟩
theorem J0 {T T':cy}(h:TT T)(hr:∀r,ay T []=some r→∃r',ay T' []=some r'∧r'.b=r.b):jh T'=jh T:=by
 obtain⟨r,h1,_⟩:=h.ok.root;obtain⟨r',h2,h3⟩:=hr r h1;rw[tQ h1,tQ h2,h3]
theorem ago {T:cy}(hT:TT T){s:Bs}{x y:Tn}(hx:ay T s=some x){i:Nat}{e:Bs×Nat}(he:x.ks[i]?=some e)(hy:ay T (s++e.1)=some y)(hk:y.ks=[])(hn:y.n=0)(q:Option Nat×Nat) :
  zf T ((s,{ x with ks:=x.ks.eraseIdx i,q:=q})::bB (bB T s) (s++e.1)) s:=by
 have aU:=hT.ok.aaM hx he hy hk (q:=q);obtain⟨_,_,_,_,aP,hs,_⟩:=hT.jz hx he;have qY:=wP hT.nd s;have uK:=wP qY (s++e.1);have hg:ay ((s,{ x with ks:=x.ks.eraseIdx i,q:=q})::bB (bB T s) (s++e.1))=ew (ew (ay T) s (some { x with ks:=x.ks.eraseIdx i,q:=q})) (s++e.1) none:=by
  funext t;rw[wL,iS qY,iS hT.nd];unfold ew
  by_cases a1:t=s++e.1
  ·have a2:¬t=s:=fun h=>hs (h.symm.trans a1)
   simp only[if_pos a1,if_neg a2]
  ·by_cases a2:t=s
   ·subst a2;simp only[if_neg a1,eq_self,if_true]
   ·simp only[if_neg a1,if_neg a2]
 refine⟨⟨by rw[hg];exact aU,?_⟩,fun t=>?_,J0 hT fun r hr=>?_,fun t ht=>?_⟩
 ·rw[cJ,eQ];exact⟨fun h=>((u7 hT.nd).1 ((u7 qY).1 h).2).1 rfl,uK⟩
 ·rw[hg];unfold bX
  by_cases a1:t=s++e.1
  ·rw[a1,gF,hy];exact hn.symm
  ·rw[dD a1]
   by_cases a2:t=s
   ·rw[a2,gF,hx]
   ·rw[dD a2]
 ·rw[hg,dD (vc aP)]
  by_cases a2:s=[]
  ·subst a2;rw[hr] at hx;cases hx;exact⟨_,gF _ _ _,rfl⟩
  ·exact⟨r,by rw[dD (Ne.symm a2)];exact hr,rfl⟩
 ·rw[hg,dD (fun h=>ht (by rw[h];exact oJ _ _)),dD (fun h=>ht (by rw[h];exact lg))]
theorem aeT {T:cy}(hT:TT T){s:Bs}{x y z:Tn}(hx:ay T s=some x){i:Nat}{e:Bs×Nat}(he:x.ks[i]?=some e)(hy:ay T (s++e.1)=some y){f:Bs×Nat}(hk:y.ks=[f])(hn:y.n=0)(hz:ay T (s++(e.1++f.1))=some z)(q:Option Nat×Nat) :
  zf T ((s++(e.1++f.1),{ z with e:=e.1++f.1})::(s,{ x with ks:=x.ks.set i (e.1++f.1,z.b),q:=q})::bB (bB (bB T s) (s++e.1)) (s++(e.1++f.1))) s:=by
 have aU:=hT.ok.join hx he hy hk hz (q:=q);obtain⟨_,_,_,_,aP,hs,_⟩:=hT.jz hx he;have qZ:=hT.ok.ne _ _ hy f (by rw[hk];simp);have oq:s≠s++(e.1++f.1):=fun h=>zj (b:=f.1) aP (by simpa using h)
 have uu:s++e.1≠s++(e.1++f.1):=fun h=>qZ (by simpa using List.append_cancel_left h)
 have qY:=wP hT.nd s;have uK:=wP qY (s++e.1);have zV:=wP uK (s++(e.1++f.1));have hg:ay ((s++(e.1++f.1),{ z with e:=e.1++f.1})::(s,{ x with ks:=x.ks.set i (e.1++f.1,z.b),q:=q})::bB (bB (bB T s) (s++e.1)) (s++(e.1++f.1)))=ew (ew (ew (ay T) s (some { x with ks:=x.ks.set i (e.1++f.1,z.b),q:=q})) (s++e.1) none) (s++(e.1++f.1)) (some { z with e:=e.1++f.1}):=by
  funext t;rw[wL,wL,iS uK,iS qY,iS hT.nd];unfold ew
  by_cases a1:t=s++(e.1++f.1)
  ·simp only[if_pos a1]
  ·by_cases a2:t=s
   ·subst a2;simp only[if_neg a1,if_neg hs,eq_self,if_true]
   ·by_cases a3:t=s++e.1
    ·simp only[if_neg a1,if_neg a2,if_pos a3]
    ·simp only[if_neg a1,if_neg a2,if_neg a3]
 refine⟨⟨by rw[hg];exact aU,?_⟩,fun t=>?_,J0 hT fun r hr=>?_,fun t ht=>?_⟩
 ·simp only[cJ,eQ,bU];refine⟨fun h=>?_,fun h=>?_,zV⟩
  ·rcases h with h|h
   ·exact oq h.symm
   ·exact((u7 uK).1 h).1 rfl
  ·exact((u7 hT.nd).1 ((u7 qY).1 ((u7 uK).1 h).2).2).1 rfl
 ·rw[hg];unfold bX
  by_cases a1:t=s++(e.1++f.1)
  ·rw[a1,gF,hz]
  ·rw[dD a1]
   by_cases a3:t=s++e.1
   ·rw[a3,gF,hy];exact hn.symm
   ·rw[dD a3]
    by_cases a2:t=s
    ·rw[a2,gF,hx]
    ·rw[dD a2]
 ·rw[hg,dD (vc (zj aP)),dD (vc aP)]
  by_cases a2:s=[]
  ·subst a2;rw[hr] at hx;cases hx;exact⟨_,gF _ _ _,rfl⟩
  ·exact⟨r,by rw[dD (Ne.symm a2)];exact hr,rfl⟩
 ·rw[hg,dD (fun h=>ht (by rw[h];exact oJ _ _)),dD (fun h=>ht (by rw[h];exact oJ _ _)),dD (fun h=>ht (by rw[h];exact lg))]
theorem Ra {α β:Type}(f:α→β)(l:List α)(i:Nat):(l.map f).eraseIdx i=(l.eraseIdx i).map f:=by
 rw[List.eraseIdx_eq_take_drop_succ,List.eraseIdx_eq_take_drop_succ,eA,List.map_take,List.map_drop]
theorem ahr {o:Og}{w:World}{T:cy}(hT:TT T){s:Bs}{x:Tn}(hx:ay T s=some x){i:Nat}{e:Bs×Nat}(he:x.ks[i]?=some e)(hs:Start o w [eU T]) :
  aj prog 394 [ak x.b,iV i].toArray w (aX o (fun _:cy => .tuple #[]) (fun T'=>zf T T' s) (fun T'=>[eU T'])):=by
 obtain⟨y,hy,fF,eT,aP,yi,_,hl⟩:=hT.jz hx he;have cV:=hT.kl hx;have aem:=hT.kl hy;have eY:=(aV.1 he).1;have hH:=hs.sh.ve hx;have uW:ay (bB T s) (s++e.1)=some y:=by rw[iS hT.nd,if_neg (Ne.symm yi)];exact hy
 replace hH:=hH.ve uW;have MN:=fun hk hn q=>ago hT hx he hy hk hn q
 have MG:=fun(z:Tn) (f:Bs×Nat) hk hn hz q=>aeT hT (z:=z) (f:=f) hx he hy hk hn hz q
 have hyn:=hT.ok.num _ _ hy;have uF:=fun(f:Bs×Nat) (hf:y.ks[0]?=some f)=>hT.jz hy hf
 have qY:=wP hT.nd s;have back:∀{w:World},SH o w (aB y.b [str y.e,uV y.n, .slice (aA y.q.1) y.ks.length y.q.2]::aq 279 1 y.q.1 y.ks.length y.q.2 (bq (y.ks.map (·.2)))::eU (bB (bB T s) (s++e.1))::[aB x.b [str x.e,uV x.n, .slice (aA x.q.1) x.ks.length x.q.2],aq 279 1 x.q.1 x.ks.length x.q.2 (bq (x.ks.map (·.2)))])→SH o w [eU T]:=fun {w} hH=>by
  have h1:=hH.iI (m:=bS kB (bB T s)) (kB (s++e.1,y)) (bS kB (bB (bB T s) (s++e.1))) (by repeat(first|exact Pk.nil|(apply Pk.cons;repeat(first|exact az.here|apply az.there)))) (pq uW);exact(h1.iI (m:=bS kB T) (kB (s,x)) (bS kB (bB T s)) (by repeat(first|exact Pk.nil|(apply Pk.cons;repeat(first|exact az.here|apply az.there)))) (pq hx)).to
 obtain⟨xb,xe,xn,⟨q,d⟩,ks⟩:=x;obtain⟨yb,ye,yn,⟨yq,yd⟩,Kz⟩:=y;dsimp only at hH cV aem eY he fF eT MN MG hl hyn uF back ⊢;obtain⟨e1,e2⟩:=e;dsimp only at fF eT aP hl yi hy uW MN MG uF hH back;subst fF eT;obtain⟨b,rfl⟩:=hH.pos (el:=279) (sz:=1) (q:=q) (n:=ks.length);refine aj.enter func394 rfl ntmps394 rfl (gh ?_);refine GX.next rfl (GO.cT (hv:=show(bq (ks.map (·.2)))[i]?=some (ak yb) by simp[bq,he]) (h:=gh ?_));refine ifs (fun h1=>?_) (fun h1=>?_)<;>refine gh ?_
 ·exact⟨T,rfl,zf.refl hT s,back hH⟩
 have BU:yn=0:=by omega
 refine gh ?_;refine ifs (fun h2=>?_) (fun h2=>?_)<;>refine gh ?_
 ·obtain rfl:Kz=[]:=gu ah;refine GX.bF (hc:=fun _ hs=>aaO i eY ah (CH _) hs) (h:=fun w hH=>gh ?_);refine GX.dC (h:=fun w hH=>gh ?_);rw[show(bq (ks.map (·.2))).eraseIdx i=bq ((ks.eraseIdx i).map (·.2)) by rw[bq,Ra,Ra];rfl,show ks.length - 1=(ks.eraseIdx i).length by rw[List.length_eraseIdx];simp[eY]] at hH;have aQ:=hH.wO s ⟨xb,xe,xn,(some b,d),ks.eraseIdx i⟩;exact⟨_,rfl,MN rfl BU (some b,d),aQ.to⟩
 refine ifs (fun h3=>?_) (fun h3=>?_)<;>refine gh ?_
 ·obtain⟨f,rfl⟩:∃f,Kz=[f]:=List.length_eq_one_iff.1 ah;obtain⟨z,hz,T4,wG,T5,iR,_,pd⟩:=uF f rfl;rw[cS] at hz iR;have jR:s≠s++(ye++f.1):=fun h=>zj (b:=f.1) aP (by simpa using h)
  have sq:ay (bB (bB T s) (s++ye)) (s++(ye++f.1))=some z:=by rw[iS qY,if_neg (Ne.symm iR),iS hT.nd,if_neg (Ne.symm jR)];exact hz
  have Ew:=MG z f rfl BU hz;replace hH:=hH.ve sq;obtain⟨zb,ze,zn,⟨zq,zd⟩,zks⟩:=z;obtain⟨f1,f2⟩:=f;dsimp only at T4 wG hH Ew pd;subst T4 wG;obtain⟨b2,rfl⟩:=hH.pos (el:=279) (sz:=1) (q:=yq) (n:=1);refine gh ?_;refine GX.next rfl (GO.cT (hv:=show(bq [zb])[0]?=some (ak zb) from rfl) (h:=gh ?_));refine GC.br (pl:=(bg [0,3,6,9,15,18,21,13,25,27,30,33,38])) (T:=fun _=>False) (hm:=mixed) (h:=fun w hE hH=>gh ?_);refine GX.pure rfl (X3 ye ze rfl rfl rfl rfl rfl ah (gh ?_));refine GX.fO (h:=fun w hH=>gh ?_);refine GX.Kh (j:=0+((i:Nat):Int).toNat*1) (hj:=by simp;omega) (h:=fun w hH=>gh ?_);rw[show 0+((i:Nat):Int).toNat*1=i by simp,show(bq (ks.map (·.2))).set i (ak zb)=bq ((ks.set i (ye++ze,zb)).map (·.2)) by simp[bq,pG],show ks.length=(ks.set i (ye++ze,zb)).length by simp] at hH;have aQ:=hH.wO s ⟨xb,xe,xn,(some b,d),ks.set i (ye++ze,zb)⟩;have cH:=aQ.wO (s++(ye++ze)) ⟨zb,ye++ze,zn,(zq,zd),zks⟩;exact⟨_,rfl,Ew (some b,d),cH.to⟩
 ·exact⟨T,rfl,zf.refl hT s,back hH⟩
end
end Go.Proofs.YtoloaehmppcjoaaGreat.V.M
