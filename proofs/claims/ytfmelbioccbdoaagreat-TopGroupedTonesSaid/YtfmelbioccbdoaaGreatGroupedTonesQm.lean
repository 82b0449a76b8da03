/-
  Part 13 of 13 of what the last text stands on: lemmas about the model, pure functions, walks, laws in plain Lean; each part's own head says its condition. Merged by a program of our own.
-/
import Derived.Test.YtfmelbioccbdoaaGreatGroupedTonesQl
import Derived.Test.YtfmelbioccbdoaaGreatRows
import Derived.JoinedOf
set_option maxHeartbeats 0
set_option linter.all false
section
namespace Go.Proofs.YtfmelbioccbdoaaGreat
open Go Go.Md Go.RowKit
namespace Sg
theorem AKZ{k:Nat}(h:k<4000000000):AX (k:Int)=(k:Int):=DJ (by omega)
def Sd(X:List To):Prop:=X.Pairwise fun x y=>x.1.2<=y.1.2
theorem AKa{i j:Nat}(h:i+j<1000000):shr .u64 (IntKind.u64.wrap (AX ((i:Int)+(j:Int)))) 1=some (((i+j)/2:Nat):Int):=by
 have e1:AX ((i:Int)+(j:Int))=((i+j:Nat):Int):=by rw[DJ (by omega)];rfl
 have e2:IntKind.u64.wrap ((i+j:Nat):Int)=((i+j:Nat):Int):=by
  unfold IntKind.wrap;simp only[IntKind.bits,IntKind.signed];simp;omega
 rw[e1,e2];unfold shr;rw[if_neg (by decide)];have:(min (1:Int).toNat IntKind.u64.bits)=1:=rfl;rw[this]
 congr 1
 rw[Int.fdiv_eq_ediv_of_nonneg _ (by decide)];omega
theorem AGM{U V W:List To}{x z:To}:(U++x::(V++z::W))[U.length]?=some x/\(U++x::(V++z::W))[U.length+1+V.length]?=some z:=by
 constructor
 ·simp
 ·rw[List.getElem?_append_right (by omega),show U.length+1+V.length-U.length=V.length+1 by omega,List.getElem?_cons_succ,List.getElem?_append_right (by omega)]
  simp
theorem AGN{U V W:List To}{x z:To}:((U++x::(V++z::W)).set U.length z).set (U.length+1+V.length) x=U++z::(V++x::W):=by
 rw[List.set_append_right _ _ (by omega),Nat.sub_self,List.set_cons_zero,List.set_append_right _ _ (by omega),show U.length+1+V.length-U.length=V.length+1 by omega,List.set_cons_succ,List.set_append_right _ _ (by omega),Nat.sub_self,List.set_cons_zero]
theorem AMu{U V W:List To}{x z:To}:((U++x::(V++z::W)).set (U.length+1+V.length) x).set U.length z=U++z::(V++x::W):=by
 rw[List.set_comm _ _ (by omega)];exact AGN
theorem ixg{l:List To}{k:Nat}{x:To}(h:l[k]?=some x):ix l (k:Int)=some x:=by unfold ix;rw[if_pos (by omega),Int.toNat_natCast,h]
theorem AGO{l:List To}{k j:Nat}{x y:To}(h:l[j]?=some y)(hk:k≠j):(l.set k x)[j]?=some y:=by rw[List.getElem?_set_ne hk];exact h
theorem AJJ{F:Nat}{A C B:List To}:∀(Xr Zr Xd Zd:List To)(m:Nat),Xr.length=Zr.length->Xd.length=Zd.length->(A++(Zd++(Xr++(C++(Xd++(Zr++B)))))).length<1000000->Xr.length<m->
  FY F (A.length:Int) ((A.length+(Xd.length+Xr.length)+C.length:Nat):Int) ((Xd.length+Xr.length:Nat):Int) m (A++(Zd++(Xr++(C++(Xd++(Zr++B)))))) (Xd.length:Int)=some (A++(Zd++(Zr++(C++(Xd++(Xr++B))))))
 |[],[],Xd,Zd,m,_,_,_,hm=>by
  obtain⟨m,rfl⟩:∃g,m=g+1:=⟨m-1,by omega⟩;unfold FY;rw[if_neg (by simp)]
 |[],z::Zr,_,_,_,h,_,_,_=>by simp at h
 |x::Xr,[],_,_,_,h,_,_,_=>by simp at h
 |x::Xr,z::Zr,Xd,Zd,m,h,hd,hl,hm=>by
  obtain⟨m,rfl⟩:∃g,m=g+1:=⟨m-1,by simp at hm;omega⟩;simp only[List.length_append,List.length_cons]at hl h hm;unfold FY;rw[if_pos (by simp;omega)];have eL:A++(Zd++(x::Xr++(C++(Xd++(z::Zr++B)))))=(A++Zd)++x::((Xr++(C++Xd))++z::(Zr++B)):=by simp
  have ea:AX ((A.length:Int)+(Xd.length:Int))=((A++Zd).length:Int):=by rw[DJ (by omega),List.length_append];omega
  have eb:AX (((A.length+(Xd.length+(x::Xr).length)+C.length:Nat):Int)+(Xd.length:Int))=(((A++Zd).length+1+(Xr++(C++Xd)).length:Nat):Int):=by
   simp only[List.length_append,List.length_cons];rw[DJ (by omega)];omega
  obtain⟨g1,g2⟩:=AGM (U:=A++Zd) (V:=Xr++(C++Xd)) (W:=Zr++B) (x:=x) (z:=z);rw[ea,eb,eL,ixg g1,ixg g2];simp only[Dq,AU];have ex:∀y:To,((y.1.1,y.1.2),y.2)=y:=fun _=>rfl;rw[ex,ex,ABB,ixg (AGO g2 (by omega))];simp only[AU];rw[ABB,AGN];have e1:AX ((Xd.length:Int)+1)=(((Xd++[x]).length:Nat):Int):=by rw[DJ (by omega)];simp
  have ih:=AJJ (F:=F) (A:=A) (C:=C) (B:=B) Xr Zr (Xd++[x]) (Zd++[z]) m (by omega) (by simp[hd]) (by simp only[List.length_append,List.length_cons,List.length_nil];omega) (by omega);rw[e1];have e2:(((Xd++[x]).length+Xr.length:Nat):Int)=((Xd.length+(x::Xr).length:Nat):Int):=by simp only[List.length_append,List.length_cons,List.length_nil];omega
  have e3:((A.length+((Xd++[x]).length+Xr.length)+C.length:Nat):Int)=((A.length+(Xd.length+(x::Xr).length)+C.length:Nat):Int):=by simp only[List.length_append,List.length_cons,List.length_nil];omega
  rw[e2,e3]at ih;have e4:A++(Zd++[z]++(Xr++(C++(Xd++[x]++(Zr++B)))))=(A++Zd)++z::((Xr++(C++Xd))++x::(Zr++B)):=by simp
  rw[e4]at ih;rw[ih];simp
theorem AGP{F:Nat}{A X C Z B:List To}(h:X.length=Z.length)(hl:(A++(X++(C++(Z++B)))).length<1000000)(hF:1000000<F):
  IA F (A++(X++(C++(Z++B)))) (A.length:Int) ((A.length+X.length+C.length:Nat):Int) (X.length:Int)=some (A++(Z++(C++(X++B)))):=by
 unfold IA;have:=AJJ (F:=F) (A:=A) (C:=C) (B:=B) X Z [] [] F h rfl (by simpa using hl) (by simp only[List.length_append]at hl;omega);simp only[List.length_nil,Nat.zero_add,List.nil_append]at this;rw[show((0:Nat):Int)=0 from rfl]at this;rw[this]
 rfl
theorem AIF{F mid:Nat}(hF:1000000<F):∀(m:Nat)(A X Y B:List To),A.length+X.length=mid->1<=X.length->1<=Y.length->(A++(X++(Y++B))).length<1000000->X.length+Y.length<m->
  ∃A' X' Y' B',NG F (mid:Int) m (A++(X++(Y++B))) (X.length:Int) (Y.length:Int)=some (A'++(X'++(Y'++B')),(X'.length:Int))/\A'.length+X'.length=mid/\X'.length=Y'.length/\(A'++(X'++(Y'++B'))).length<1000000/\A'++(Y'++(X'++B'))=A++(Y++(X++B))
 |0,_,_,_,_,_,_,_,_,h=>by omega
 |m+1,A,X,Y,B,hmid,hX,hY,hl,hm=>by
  have hl':=hl;simp only[List.length_append]at hl';unfold NG;by_cases e:X.length=Y.length
  ·rw[if_neg (by simp[e])]
   exact⟨A,X,Y,B,rfl,hmid,e,hl,rfl⟩
  ·rw[if_pos (by simp;omega)]
   have ew:AX ((mid:Int)-(X.length:Int))=(A.length:Int):=by rw[DJ (by omega)];omega
   rw[ew];by_cases hlt:Y.length<X.length
   ·rw[if_pos (by simpa using hlt)]
    have hsp:X=X.take Y.length++X.drop Y.length:=(List.take_append_drop _ _).symm;generalize hX1:X.take Y.length=X1 at hsp;generalize hX2:X.drop Y.length=X2 at hsp;have l1:X1.length=Y.length:=by rw[<-hX1,List.length_take];omega
    have l2:X2.length=X.length-Y.length:=by rw[<-hX2,List.length_drop]
    have es:=AGP (F:=F) (A:=A) (X:=X1) (C:=X2) (Z:=Y) (B:=B) l1 (by simp only[List.length_append];omega) hF;have eL:A++(X++(Y++B))=A++(X1++(X2++(Y++B))):=by rw[hsp];simp
    have em:(mid:Int)=((A.length+X1.length+X2.length:Nat):Int):=by omega
    rw[eL];rw[show IA F (A++(X1++(X2++(Y++B)))) (A.length:Int) (mid:Int) (Y.length:Int)=some (A++(Y++(X2++(X1++B)))) by rw[em,<-l1];exact es];simp only[Dq,AU];rw[show AX ((X.length:Int)-(Y.length:Int))=(X2.length:Int) by rw[DJ (by omega)];omega];obtain⟨A',X',Y',B',r1,r2,r3,r4,r5⟩:=AIF (mid:=mid) hF m (A++Y) X2 X1 B (by rw[List.length_append];omega) (by omega) (by omega) (by simp only[List.length_append];omega) (by omega);refine⟨A',X',Y',B',?_,r2,r3,r4,?_⟩
    ·rw[<-r1,l1]
     simp
    ·rw[r5,hsp];simp
   ·rw[if_neg (by simp;omega)]
    have hsp:Y=Y.take (Y.length-X.length)++Y.drop (Y.length-X.length):=(List.take_append_drop _ _).symm;generalize hY1:Y.take (Y.length-X.length)=Y1 at hsp;generalize hY2:Y.drop (Y.length-X.length)=Y2 at hsp;have l1:Y1.length=Y.length-X.length:=by rw[<-hY1,List.length_take];omega
    have l2:Y2.length=X.length:=by rw[<-hY2,List.length_drop];omega
    have es:=AGP (F:=F) (A:=A) (X:=X) (C:=Y1) (Z:=Y2) (B:=B) l2.symm (by simp only[List.length_append];omega) hF;have eL:A++(X++(Y++B))=A++(X++(Y1++(Y2++B))):=by rw[hsp];simp
    have em:AX (AX ((mid:Int)+(Y.length:Int))-(X.length:Int))=((A.length+X.length+Y1.length:Nat):Int):=by rw[DJ (n:=(mid:Int)+Y.length) (by omega),DJ (by omega)];omega
    rw[eL,em,es];simp only[Dq,AU];rw[show AX ((Y.length:Int)-(X.length:Int))=(Y1.length:Int) by rw[DJ (by omega)];omega];obtain⟨A',X',Y',B',r1,r2,r3,r4,r5⟩:=AIF (mid:=mid) hF m A Y2 Y1 (X++B) (by omega) (by omega) (by omega) (by simp only[List.length_append];omega) (by omega);refine⟨A',X',Y',B',?_,r2,r3,r4,?_⟩
    ·rw[<-r1,l2]
    ·rw[r5,hsp];simp
theorem APT{F:Nat}(hF:1000000<F){A X Y B:List To}(hX:1<=X.length)(hY:1<=Y.length)(hl:(A++(X++(Y++B))).length<1000000):
  qg F (A++(X++(Y++B))) (A.length:Int) ((A.length+X.length:Nat):Int) ((A.length+X.length+Y.length:Nat):Int)=some (A++(Y++(X++B))):=by
 have hl':=hl;simp only[List.length_append]at hl';obtain⟨A',X',Y',B',r1,r2,r3,r4,r5⟩:=AIF hF F A X Y B rfl hX hY hl (by omega);unfold qg;have e1:AX (((A.length+X.length:Nat):Int)-(A.length:Int))=(X.length:Int):=by rw[DJ (by omega)];omega
 have e2:AX (((A.length+X.length+Y.length:Nat):Int)-((A.length+X.length:Nat):Int))=(Y.length:Int):=by rw[DJ (by omega)];omega
 rw[e1,e2,r1];simp only[Dq,AU];have r4':=r4;simp only[List.length_append]at r4';have es:=AGP (F:=F) (A:=A') (X:=X') (C:=[]) (Z:=Y') (B:=B') r3 (by simpa using r4) hF;simp only[List.nil_append,List.length_nil,Nat.add_zero]at es;have e3:AX (((A.length+X.length:Nat):Int)-(X'.length:Int))=(A'.length:Int):=by rw[DJ (by omega)];omega
 rw[e3,<-r2,es];simp only[AU];rw[r5]
def bsr(f:Nat->Bool):Nat->Nat->Nat->Nat
 |0,lo,_=>lo
 |m+1,lo,hi=>if lo<hi then(if f ((lo+hi)/2)=true then bsr f m ((lo+hi)/2+1) hi else bsr f m lo ((lo+hi)/2))else lo
theorem ACr{f:Nat->Bool}{H Lo:Nat}(hf:∀p q,Lo<=p->p<=q->q<H->f q=true->f p=true):∀(m lo hi:Nat),Lo<=lo->lo<=hi->hi<=H->hi-lo<m->lo<=bsr f m lo hi/\bsr f m lo hi<=hi/\(∀p,lo<=p->p<bsr f m lo hi->f p=true)/\∀p,bsr f m lo hi<=p->p<hi->f p=false
 |0,_,_,_,_,_,h=>by omega
 |m+1,lo,hi,hL,hlh,hH,hm=>by
  unfold bsr;by_cases h:lo<hi
  ·rw[if_pos h]
   by_cases hc:f ((lo+hi)/2)=true
   ·rw[if_pos hc]
    obtain⟨a,b,c,d⟩:=ACr hf m ((lo+hi)/2+1) hi (by omega) (by omega) hH (by omega);refine⟨by omega,b,fun p h1 h2=>?_,d⟩;by_cases h3:(lo+hi)/2+1<=p
    ·exact c p h3 h2
    ·exact hf p _ (by omega) (by omega) (by omega) hc
   ·rw[if_neg hc]
    obtain⟨a,b,c,d⟩:=ACr hf m lo ((lo+hi)/2) hL (by omega) (by omega) (by omega);refine⟨a,by omega,c,fun p h1 h2=>?_⟩;by_cases h3:p<(lo+hi)/2
    ·exact d p h1 h3
    ·rcases hp:f p with _|_
     ·rfl
     ·exact absurd (hf _ p (by omega) (by omega) (by omega) hp) hc
  ·rw[if_neg h]
   exact⟨Nat.le_refl _,hlh,fun p h1 h2=>by omega,fun p h1 h2=>by omega⟩
theorem AIH{y:List To}(hb:Bd y){p q:Nat}(hp:p<y.length)(hq:q<y.length):xP ((y[p].1.1,y[p].1.2),y[p].2) ((y[q].1.1,y[q].1.2),y[q].2)=some (hi y p-hi y q):=by
 rw[ALk hb (List.getElem_mem hp) (List.getElem_mem hq),AAi hp,AAi hq]
theorem AMv{F a:Nat}{y:List To}(hb:Bd y)(hl:y.length<400000)(ha:a<y.length):∀(m lo hi_:Nat),hi_<=y.length->hi_-lo<m->
  Jq F y (a:Int) m (lo:Int) (hi_:Int)=some ((bsr (fun p=>decide (hi y p<hi y a)) m lo hi_:Nat):Int)
 |0,_,_,_,h=>by omega
 |m+1,lo,hi_,hh,hm=>by
  unfold Jq bsr;by_cases h:lo<hi_
  ·rw[if_pos (by simpa using h),if_pos h,AKa (by omega)]
   simp only[Dq,AU];rw[AKZ (by omega),uT (show(lo+hi_)/2<y.length by omega),uT ha];simp only[AU];rw[AIH hb (by omega) ha];simp only[AU];by_cases hc:hi y ((lo+hi_)/2)<hi y a
   ·rw[if_pos (by simp;omega),if_pos (by simpa using hc)]
    simp only[AU];rw[show AX ((((lo+hi_)/2:Nat):Int)+1)=(((lo+hi_)/2+1:Nat):Int) by rw[DJ (by omega)];rfl];exact AMv hb hl ha m _ _ hh (by omega)
   ·rw[if_neg (by simp;omega),if_neg (by simpa using hc)]
    simp only[AU];exact AMv hb hl ha m _ _ (by omega) (by omega)
  ·rw[if_neg (by simpa using h),if_neg h]
theorem AMw{F a:Nat}{y:List To}(hb:Bd y)(hl:y.length<400000)(ha:a<y.length):∀(m lo hi_:Nat),hi_<=y.length->hi_-lo<m->
  Jr F y (a:Int) m (lo:Int) (hi_:Int)=some ((bsr (fun p=>!decide (hi y a<hi y p)) m lo hi_:Nat):Int)
 |0,_,_,_,h=>by omega
 |m+1,lo,hi_,hh,hm=>by
  unfold Jr bsr;by_cases h:lo<hi_
  ·rw[if_pos (by simpa using h),if_pos h,AKa (by omega)]
   simp only[Dq,AU];rw[AKZ (by omega),uT (show(lo+hi_)/2<y.length by omega),uT ha];simp only[AU];rw[AIH hb ha (by omega)];simp only[AU];by_cases hc:hi y a<hi y ((lo+hi_)/2)
   ·rw[if_neg (by simp;omega),if_neg (by simpa using hc)]
    simp only[AU];exact AMw hb hl ha m _ _ (by omega) (by omega)
   ·rw[if_pos (by simp;omega),if_pos (by simpa using hc)]
    simp only[AU];rw[show AX ((((lo+hi_)/2:Nat):Int)+1)=(((lo+hi_)/2+1:Nat):Int) by rw[DJ (by omega)];rfl];exact AMw hb hl ha m _ _ hh (by omega)
  ·rw[if_neg (by simpa using h),if_neg h]
theorem AMx{F x2 x22:Nat}{y:List To}(hb:Bd y)(hl:y.length<400000)(hn:x22+x2<=400000):∀(m lo hi_:Nat),hi_<=y.length->(∀c,lo<=c->c<hi_->c+1<=x22+x2/\x22+x2-1-c<y.length)->hi_-lo<m->
  KN F y (x2:Int) (x22:Int) m (lo:Int) (hi_:Int)=some ((bsr (fun p=>!decide (hi y (x22+x2-1-p)<hi y p)) m lo hi_:Nat):Int)
 |0,_,_,_,_,h=>by omega
 |m+1,lo,hi_,hh,hc0,hm=>by
  unfold KN bsr;by_cases h:lo<hi_
  ·obtain⟨c1,c2⟩:=hc0 ((lo+hi_)/2) (by omega) (by omega)
   rw[if_pos (by simpa using h),if_pos h,AKa (by omega)];simp only[Dq,AU];have e1:AX (AX (AX (AX (x22:Int)+(x2:Int))-1)-AX (((lo+hi_)/2:Nat):Int))=((x22+x2-1-(lo+hi_)/2:Nat):Int):=by
    rw[DJ (n:=(x22:Int)) (by omega),DJ (n:=(x22:Int)+x2) (by omega),DJ (n:=(x22:Int)+x2-1) (by omega),DJ (n:=(((lo+hi_)/2:Nat):Int)) (by omega),DJ (by omega)];omega
   rw[e1,AKZ (by omega),uT c2,uT (show(lo+hi_)/2<y.length by omega)];simp only[AU];rw[AIH hb c2 (by omega)];simp only[AU];by_cases hc:hi y (x22+x2-1-(lo+hi_)/2)<hi y ((lo+hi_)/2)
   ·rw[if_neg (by simp;omega),if_neg (by simpa using hc)]
    simp only[AU];exact AMx hb hl hn m _ _ (by omega) (fun c h1 h2=>hc0 c h1 (by omega)) (by omega)
   ·rw[if_pos (by simp;omega),if_pos (by simpa using hc)]
    simp only[AU];rw[show AX ((((lo+hi_)/2:Nat):Int)+1)=(((lo+hi_)/2+1:Nat):Int) by rw[DJ (by omega)];rfl];exact AMx hb hl hn m _ _ hh (fun c h1 h2=>hc0 c (by omega) h2) (by omega)
  ·rw[if_neg (by simpa using h),if_neg h]
theorem ANe{F z1:Nat}{x:To}:∀(Yr D R:List To)(m:Nat),z1=D.length+Yr.length+1->z1<1000000->Yr.length<m->
  Gy F (z1:Int) m (D++x::(Yr++R)) (D.length:Int)=some (D++(Yr++x::R))
 |[],D,R,m,h,hz,hm=>by
  obtain⟨m,rfl⟩:∃g,m=g+1:=⟨m-1,by omega⟩;unfold Gy;simp only[List.length_nil]at h;rw[if_neg (by rw[DJ (by omega)];simp;omega)]
  rfl
 |v::Yr,D,R,m,h,hz,hm=>by
  obtain⟨m,rfl⟩:∃g,m=g+1:=⟨m-1,by omega⟩;simp only[List.length_cons]at h hm;unfold Gy;rw[if_pos (by rw[DJ (by omega)];simp;omega)];obtain⟨g1,g2⟩:=AGM (U:=D) (V:=[]) (W:=Yr++R) (x:=x) (z:=v);simp only[List.nil_append,List.length_nil,Nat.add_zero]at g1 g2;have e1:AX ((D.length:Int)+1)=((D.length+1:Nat):Int):=by rw[DJ (by omega)];rfl
  have eL:D++x::(v::Yr++R)=D++x::v::(Yr++R):=rfl;rw[e1,eL,ixg g2,ixg g1];simp only[Dq,AU];have ex:∀y:To,((y.1.1,y.1.2),y.2)=y:=fun _=>rfl;rw[ex,ex,ABB,ixg (AGO g2 (by omega))];simp only[AU];have ts:=AGN (U:=D) (V:=[]) (W:=Yr++R) (x:=x) (z:=v);simp only[List.nil_append,List.length_nil,Nat.add_zero]at ts;rw[ABB,ts];have ih:=ANe (F:=F) (z1:=z1) (x:=x) Yr (D++[v]) R m (by simp only[List.length_append,List.length_cons,List.length_nil];omega) hz (by omega);have e2:(D++[v]).length=D.length+1:=by simp
  rw[e2]at ih;have e3:D++v::x::(Yr++R)=(D++[v])++x::(Yr++R):=by simp
  rw[e3,ih];simp
theorem ANf{F:Nat}{D:List To}{v:To}:∀(k:Nat)(Xr R:List To)(m:Nat),Xr.length=k->D.length+k<1000000->k<m->
  G5 F (D.length:Int) m (D++(Xr++v::R)) ((D.length+k:Nat):Int)=some (D++v::(Xr++R))
 |0,Xr,R,m,h,hz,hm=>by
  obtain⟨m,rfl⟩:∃g,m=g+1:=⟨m-1,by omega⟩;have:Xr=[]:=List.eq_nil_of_length_eq_zero h;subst this;unfold G5;rw[if_neg (by simp)]
  rfl
 |k+1,Xr,R,m,h,hz,hm=>by
  obtain⟨m,rfl⟩:∃g,m=g+1:=⟨m-1,by omega⟩;rcases List.eq_nil_or_concat Xr with rfl|⟨X',u,rfl⟩
  ·simp at h
  have h:X'.length=k:=by simpa using h
  unfold G5;rw[if_pos (by simp;omega)];obtain⟨g1,g2⟩:=AGM (U:=D++X') (V:=[]) (W:=R) (x:=u) (z:=v);have lU:(D++X').length=D.length+k:=by rw[List.length_append,h]
  simp only[List.nil_append,List.length_nil,Nat.add_zero,lU]at g1 g2;have e1:AX (((D.length+(k+1):Nat):Int)-1)=((D.length+k:Nat):Int):=by rw[DJ (by omega)];omega
  have eL:D++(X'.concat u++v::R)=(D++X')++u::v::R:=by simp
  rw[e1,eL,ixg g1,show D.length+(k+1)=D.length+k+1 by omega,ixg g2];simp only[Dq,AU];have ex:∀y:To,((y.1.1,y.1.2),y.2)=y:=fun _=>rfl;rw[ex,ex,ABB,ixg (AGO g1 (by omega))];simp only[AU];have ts:=AMu (U:=D++X') (V:=[]) (W:=R) (x:=u) (z:=v);simp only[List.nil_append,List.length_nil,Nat.add_zero,lU]at ts;rw[ABB,ts];have ih:=ANf (F:=F) (D:=D) (v:=v) k X' (u::R) m h (by omega) (by omega);have e3:(D++X')++v::u::R=D++(X'++v::u::R):=by simp
  rw[e3,ih];simp
theorem ANg{A X R:List To}{p:Nat}(h:p<X.length):hi (A++(X++R)) (A.length+p)=X[p].1.2:=by
 unfold hi;rw[List.getElem?_append_right (by omega),show A.length+p-A.length=p by omega,List.getElem?_append_left h,List.getElem?_eq_getElem h]
 rfl
theorem Sd.get{X:List To}(h:Sd X){p q:Nat}(hpq:p<=q)(hq:q<X.length):X[p].1.2<=X[q].1.2:=by
 rcases Nat.lt_or_eq_of_le hpq with h1|rfl
 ·exact List.pairwise_iff_getElem.1 h p q (by omega) hq h1
 ·exact Int.le_refl _
theorem AES{X Y:List To}:Sd (X++Y)↔Sd X/\Sd Y/\∀x∈X,∀y∈Y,x.1.2<=y.1.2:=List.pairwise_append
theorem AJK{X M:List To}{P:To->Prop}(h:M.Perm X)(hx:∀x∈X,P x):∀x∈M,P x:=fun x hm=>hx x (h.mem_iff.1 hm)
theorem AII{F:Nat}(hF:1000000<F):∀(m:Nat)(A X Y B:List To),1<=X.length->1<=Y.length->Sd X->Sd Y->Bd (A++(X++(Y++B)))->(A++(X++(Y++B))).length<100000->X.length+Y.length<m->
  ∃M,BH F m (A++(X++(Y++B))) (A.length:Int) ((A.length+X.length:Nat):Int) ((A.length+X.length+Y.length:Nat):Int)=some (A++(M++B))/\M.Perm (X++Y)/\Sd M
 |0,_,_,_,_,_,_,_,_,_,_,h=>by omega
 |m+1,A,X,Y,B,hX,hY,sX,sY,hb,hl,hm=>by
  have hl':=hl;simp only[List.length_append]at hl';have hyY:∀{p:Nat}(h:p<Y.length),hi (A++(X++(Y++B))) (A.length+X.length+p)=Y[p].1.2:=fun{p} h=>by
   have:=ANg (A:=A++X) (R:=B) h;rw[List.length_append,List.append_assoc]at this;exact this
  have hyX:∀{p:Nat}(h:p<X.length),hi (A++(X++(Y++B))) (A.length+p)=X[p].1.2:=fun{p} h=>ANg h;unfold BH;have ed1:AX (((A.length+X.length:Nat):Int)-(A.length:Int))=(X.length:Int):=by rw[DJ (by omega)];omega
  have ed2:AX (((A.length+X.length+Y.length:Nat):Int)-((A.length+X.length:Nat):Int))=(Y.length:Int):=by rw[DJ (by omega)];omega
  rw[ed1,ed2];by_cases h1:X.length=1
  ·obtain⟨x,rfl⟩:∃x,X=[x]:=List.length_eq_one_iff.1 h1;rw[if_pos (by simp)];have hxx:=hyX (p:=0) (by simp);simp only[Nat.add_zero,List.getElem_cons_zero]at hxx;rw[AMv hb (by omega) (by simp only[List.length_append,List.length_cons,List.length_nil];omega) F (A.length+ [x].length) (A.length+ [x].length+Y.length) (by simp only[List.length_append];omega) (by omega)];simp only[Dq,AU];obtain⟨b1,b2,b3,b4⟩:=ACr (f:=fun p=>decide (hi (A++([x]++(Y++B))) p<hi (A++([x]++(Y++B))) A.length)) (H:=A.length+ [x].length+Y.length) (Lo:=A.length+ [x].length) (fun p q h0 hpq hq hf=>by
    obtain⟨p',rfl⟩:∃p',p=A.length+ [x].length+p':=⟨p-(A.length+ [x].length),by omega⟩;obtain⟨q',rfl⟩:∃q',q=A.length+ [x].length+q':=⟨q-(A.length+ [x].length),by omega⟩;rw[decide_eq_true_eq,hyY (by omega)]at hf⊢;have:=sY.get (p:=p') (q:=q') (by omega) (by omega);omega) F (A.length+ [x].length) (A.length+ [x].length+Y.length) (Nat.le_refl _) (by omega) (Nat.le_refl _) (by omega)
   generalize bsr (fun p=>decide (hi (A++([x]++(Y++B))) p<hi (A++([x]++(Y++B))) A.length)) F (A.length+ [x].length) (A.length+ [x].length+Y.length)=s at b1 b2 b3 b4;obtain⟨k,rfl⟩:∃k,s=A.length+ [x].length+k:=⟨s-(A.length+ [x].length),by omega⟩;have hk:k<=Y.length:=by omega
   have hsp:Y=Y.take k++Y.drop k:=(List.take_append_drop _ _).symm;have lk:(Y.take k).length=k:=by rw[List.length_take];omega
   have hs:=ANe (F:=F) (z1:=A.length+ [x].length+k) (x:=x) (Y.take k) A (Y.drop k++B) F (by rw[lk];simp;omega) (by simp only[List.length_cons,List.length_nil]at*;omega) (by rw[lk];omega);have eL:A++([x]++(Y++B))=A++x::(Y.take k++(Y.drop k++B)):=by
    rw[<-List.append_assoc (Y.take k),List.take_append_drop];rfl
   rw[eL,hs];simp only[AU];refine⟨Y.take k++x::Y.drop k,by simp,?_,?_⟩
   ·have:=List.perm_middle (a:=x) (l₁:=Y.take k) (l₂:=Y.drop k)
    rw[List.take_append_drop]at this;exact this
   ·refine AES.2 ⟨sY.sublist (List.take_sublist _ _),List.pairwise_cons.2 ⟨fun y hy=>?_,sY.sublist (List.drop_sublist _ _)⟩,fun u hu v hv=>?_⟩
    ·obtain⟨j,hj,rfl⟩:=List.mem_iff_getElem.1 hy
     rw[List.length_drop]at hj;have:=b4 (A.length+ [x].length+(k+j)) (by omega) (by omega);rw[decide_eq_false_iff_not,hyY (by omega),hxx]at this;rw[List.getElem_drop];omega
    ·obtain⟨j,hj,rfl⟩:=List.mem_iff_getElem.1 hu
     rw[lk]at hj;have hux:(Y.take k)[j].1.2<x.1.2:=by
      have:=b3 (A.length+ [x].length+j) (by omega) (by omega);rw[decide_eq_true_eq,hyY (by omega),hxx]at this;rw[List.getElem_take];omega
     rcases List.mem_cons.1 hv with rfl|hv
     ·omega
     ·obtain⟨i,hi',rfl⟩:=List.mem_iff_getElem.1 hv
      rw[List.length_drop]at hi';rw[List.getElem_take,List.getElem_drop];exact sY.get (by omega) (by omega)
  rw[if_neg (by simp only[decide_eq_true_eq];omega)];by_cases h2:Y.length=1
  ·obtain⟨v,rfl⟩:∃x,Y=[x]:=List.length_eq_one_iff.1 h2;rw[if_pos (by simp)];have hvv:=hyY (p:=0) (by simp);simp only[Nat.add_zero,List.getElem_cons_zero]at hvv;rw[AMw hb (by omega) (by simp only[List.length_append,List.length_cons,List.length_nil];omega) F A.length (A.length+X.length) (by simp only[List.length_append];omega) (by omega)];simp only[Dq,AU];obtain⟨b1,b2,b3,b4⟩:=ACr (f:=fun p=>!decide (hi (A++(X++([v]++B))) (A.length+X.length)<hi (A++(X++([v]++B))) p)) (H:=A.length+X.length) (Lo:=A.length) (fun p q h0 hpq hq hf=>by
    obtain⟨p',rfl⟩:∃p',p=A.length+p':=⟨p-A.length,by omega⟩;obtain⟨q',rfl⟩:∃q',q=A.length+q':=⟨q-A.length,by omega⟩;simp only[Bool.not_eq_true',decide_eq_false_iff_not]at hf⊢;rw[hyX (p:=q') (by omega)]at hf;rw[hyX (p:=p') (by omega)];have:=sX.get (p:=p') (q:=q') (by omega) (by omega);omega) F A.length (A.length+X.length) (Nat.le_refl _) (by omega) (Nat.le_refl _) (by omega)
   generalize bsr (fun p=>!decide (hi (A++(X++([v]++B))) (A.length+X.length)<hi (A++(X++([v]++B))) p)) F A.length (A.length+X.length)=s at b1 b2 b3 b4;obtain⟨k,rfl⟩:∃k,s=A.length+k:=⟨s-A.length,by omega⟩;have hk:k<=X.length:=by omega
   have lk:(X.take k).length=k:=by rw[List.length_take];omega
   have ld:(X.drop k).length=X.length-k:=List.length_drop;have hs:=ANf (F:=F) (D:=A++X.take k) (v:=v) (X.length-k) (X.drop k) B F ld (by rw[List.length_append,lk];omega) (by omega);rw[List.length_append,lk,show A.length+k+(X.length-k)=A.length+X.length by omega]at hs;have eL:A++(X++([v]++B))=(A++X.take k)++(X.drop k++v::B):=by
    rw[List.append_assoc A,<-List.append_assoc (X.take k),List.take_append_drop];rfl
   rw[eL,hs];simp only[AU];refine⟨X.take k++v::X.drop k,by simp,?_,?_⟩
   ·have:=List.perm_middle (a:=v) (l₁:=X.take k) (l₂:=X.drop k)
    rw[List.take_append_drop]at this;exact this.trans (List.perm_append_comm (l₁:=[v]) (l₂:=X))
   ·refine AES.2 ⟨sX.sublist (List.take_sublist _ _),List.pairwise_cons.2 ⟨fun y hy=>?_,sX.sublist (List.drop_sublist _ _)⟩,fun u hu w hw=>?_⟩
    ·obtain⟨j,hj,rfl⟩:=List.mem_iff_getElem.1 hy
     rw[List.length_drop]at hj;have:=b4 (A.length+(k+j)) (by omega) (by omega);simp only[Bool.not_eq_false',decide_eq_true_eq]at this;rw[hyX (p:=k+j) (by omega),hvv]at this;rw[List.getElem_drop];omega
    ·obtain⟨j,hj,rfl⟩:=List.mem_iff_getElem.1 hu
     rw[lk]at hj;have hux:(X.take k)[j].1.2<=v.1.2:=by
      have:=b3 (A.length+j) (by omega) (by omega);simp only[Bool.not_eq_true',decide_eq_false_iff_not]at this;rw[hyX (p:=j) (by omega),hvv]at this;rw[List.getElem_take];omega
     rcases List.mem_cons.1 hw with rfl|hw
     ·exact hux
     ·obtain⟨i,hi',rfl⟩:=List.mem_iff_getElem.1 hw
      rw[List.length_drop]at hi';rw[List.getElem_take,List.getElem_drop];exact sX.get (by omega) (by omega)
  rw[if_neg (by simp only[decide_eq_true_eq];omega)];obtain⟨a,ha⟩:∃a,a=A.length:=⟨_,rfl⟩;obtain⟨n,hn⟩:∃n,n=X.length:=⟨_,rfl⟩;obtain⟨k,hk⟩:∃k,k=Y.length:=⟨_,rfl⟩;obtain⟨mid,hmid⟩:∃d,d=(A.length+(A.length+X.length+Y.length))/2:=⟨_,rfl⟩;rw[AKa (by omega),<-hmid];simp only[Dq,AU];rw[AKZ (show mid<4000000000 by omega)];obtain⟨lo,r0,elr,hlo⟩:∃lo r0:Nat,(if decide ((mid:Int)<((A.length+X.length:Nat):Int))=true then some (AX (AX ((mid:Int)+((A.length+X.length:Nat):Int))-((A.length+X.length+Y.length:Nat):Int)),(mid:Int))else some ((A.length:Int),((A.length+X.length:Nat):Int)))=some ((lo:Int),(r0:Int))/\
    ((mid<A.length+X.length/\lo+(A.length+X.length+Y.length)=mid+(A.length+X.length)/\r0=mid)\/(A.length+X.length<=mid/\lo=A.length/\r0=A.length+X.length)):=by
   by_cases c:mid<A.length+X.length
   ·refine⟨mid+(A.length+X.length)-(A.length+X.length+Y.length),mid,?_,.inl ⟨c,by omega,rfl⟩⟩
    rw[if_pos (by simp only[decide_eq_true_eq];omega),DJ (n:=(mid:Int)+((A.length+X.length:Nat):Int)) (by omega),DJ (by omega)]
    congr 2
    omega
   ·exact⟨A.length,A.length+X.length,by rw[if_neg (by simp only[decide_eq_true_eq];omega)],.inr ⟨by omega,rfl,rfl⟩⟩
  rw[elr];simp only[AU];have hrange:A.length<=lo/\lo<=r0/\r0<=A.length+X.length/\r0<=mid/\mid+(A.length+X.length)<=lo+(A.length+X.length+Y.length):=by omega
  rw[AMx hb (by omega) (by omega) F lo r0 (by simp only[List.length_append];omega) (fun c h1 h2=>by simp only[List.length_append];omega) (by omega)];simp only[AU];obtain⟨b1,b2,b3,b4⟩:=ACr (f:=fun p=>!decide (hi (A++(X++(Y++B))) (mid+(A.length+X.length)-1-p)<hi (A++(X++(Y++B))) p)) (H:=r0) (Lo:=lo) (fun p q h0 hpq hq hf=>by
   obtain⟨p',rfl⟩:∃p',p=A.length+p':=⟨p-A.length,by omega⟩;obtain⟨q',rfl⟩:∃q',q=A.length+q':=⟨q-A.length,by omega⟩;simp only[Bool.not_eq_true',decide_eq_false_iff_not]at hf⊢;rw[hyX (by omega),show mid+(A.length+X.length)-1-(A.length+q')=A.length+X.length+(mid-1-(A.length+q')) by omega,hyY (by omega)]at hf;rw[hyX (by omega),show mid+(A.length+X.length)-1-(A.length+p')=A.length+X.length+(mid-1-(A.length+p')) by omega,hyY (by omega)];have:=sX.get (p:=p') (q:=q') (by omega) (by omega);have:=sY.get (p:=mid-1-(A.length+q')) (q:=mid-1-(A.length+p')) (by omega) (by omega);omega) F lo r0 (Nat.le_refl _) (by omega) (Nat.le_refl _) (by omega)
  generalize bsr (fun p=>!decide (hi (A++(X++(Y++B))) (mid+(A.length+X.length)-1-p)<hi (A++(X++(Y++B))) p)) F lo r0=s at b1 b2 b3 b4;obtain⟨i,rfl⟩:∃i,s=A.length+i:=⟨s-A.length,by omega⟩;obtain⟨j,hj⟩:∃j,j=mid-(A.length+i):=⟨_,rfl⟩;have hi1:i<=X.length:=by omega
  have hj1:j<=Y.length:=by omega
  have ee:AX (AX ((mid:Int)+((A.length+X.length:Nat):Int))-((A.length+i:Nat):Int))=((A.length+X.length+j:Nat):Int):=by
   rw[DJ (n:=(mid:Int)+((A.length+X.length:Nat):Int)) (by omega),DJ (by omega)];omega
  rw[ee];have eX:X=X.take i++X.drop i:=(List.take_append_drop _ _).symm;have eY:Y=Y.take j++Y.drop j:=(List.take_append_drop _ _).symm;have lX1:(X.take i).length=i:=by rw[List.length_take];omega
  have lX2:(X.drop i).length=X.length-i:=List.length_drop;have lY1:(Y.take j).length=j:=by rw[List.length_take];omega
  have lY2:(Y.drop j).length=Y.length-j:=List.length_drop;have P1:∀u∈X.take i,∀v∈Y.drop j,u.1.2<=v.1.2:=by
   intro u hu v hv;obtain⟨p,hp,rfl⟩:=List.mem_iff_getElem.1 hu;obtain⟨q,hq,rfl⟩:=List.mem_iff_getElem.1 hv;rw[lX1]at hp;rw[lY2]at hq;rw[List.getElem_take,List.getElem_drop];have h3:lo<A.length+i:=by omega
   have:=b3 (A.length+i-1) (by omega) (by omega);simp only[Bool.not_eq_true',decide_eq_false_iff_not]at this;rw[show A.length+i-1=A.length+(i-1) by omega,hyX (by omega),show mid+(A.length+X.length)-1-(A.length+(i-1))=A.length+X.length+j by omega,hyY (by omega)]at this;have:=sX.get (p:=p) (q:=i-1) (by omega) (by omega);have:=sY.get (p:=j) (q:=j+q) (by omega) (by omega);omega
  have P2:∀v∈Y.take j,∀u∈X.drop i,v.1.2<=u.1.2:=by
   intro v hv u hu;obtain⟨p,hp,rfl⟩:=List.mem_iff_getElem.1 hv;obtain⟨q,hq,rfl⟩:=List.mem_iff_getElem.1 hu;rw[lY1]at hp;rw[lX2]at hq;rw[List.getElem_take,List.getElem_drop];have h3:A.length+i<r0:=by omega
   have:=b4 (A.length+i) (by omega) h3;simp only[Bool.not_eq_false',decide_eq_true_eq]at this;rw[hyX (by omega),show mid+(A.length+X.length)-1-(A.length+i)=A.length+X.length+(j-1) by omega,hyY (by omega)]at this;have:=sY.get (p:=p) (q:=j-1) (by omega) (by omega);have:=sX.get (p:=i) (q:=i+q) (by omega) (by omega);omega
  have sX1:Sd (X.take i):=sX.sublist (List.take_sublist _ _);have sX2:Sd (X.drop i):=sX.sublist (List.drop_sublist _ _);have sY1:Sd (Y.take j):=sY.sublist (List.take_sublist _ _);have sY2:Sd (Y.drop j):=sY.sublist (List.drop_sublist _ _);have cX:∀u∈X.take i,∀v∈X.drop i,u.1.2<=v.1.2:=(AES.1 (eX▸sX)).2.2;have cY:∀u∈Y.take j,∀v∈Y.drop j,u.1.2<=v.1.2:=(AES.1 (eY▸sY)).2.2;have hper:(X++Y).Perm ((X.take i++Y.take j)++(X.drop i++Y.drop j)):=by
   conv=>lhs;rw[eX,eY]
   rw[List.append_assoc,List.append_assoc];refine List.Perm.append_left _ ?_;exact List.perm_append_comm_assoc _ _ _
  generalize X.take i=X1 at*
  generalize X.drop i=X2 at*
  generalize Y.take j=Y1 at*
  generalize Y.drop j=Y2 at*
  have eW:A++(X++(Y++B))=(A++X1)++(X2++(Y1++(Y2++B))):=by rw[eX,eY];simp
  have eV:(A++X1)++(Y1++(X2++(Y2++B)))=A++(X1++(Y1++((X2++Y2)++B))):=by simp
  have lAX:(A++X1).length=A.length+i:=by rw[List.length_append,lX1]
  have erot:(if(decide (((A.length+i:Nat):Int)<((A.length+X.length:Nat):Int))&&decide (((A.length+X.length:Nat):Int)<((A.length+X.length+j:Nat):Int)))=true then
    (qg F (A++(X++(Y++B))) ((A.length+i:Nat):Int) ((A.length+X.length:Nat):Int) ((A.length+X.length+j:Nat):Int)).bind fun x27=>some x27
    else some (A++(X++(Y++B))))=some (A++(X1++(Y1++((X2++Y2)++B)))):=by
   by_cases c:i<X.length/\0<j
   ·rw[if_pos (by simp;omega)]
    have hr:=APT (F:=F) hF (A:=A++X1) (X:=X2) (Y:=Y1) (B:=Y2++B) (by omega) (by omega) (by rw[<-eW];omega);rw[lAX,lX2,lY1,show A.length+i+(X.length-i)=A.length+X.length by omega,<-eW]at hr;rw[hr,eV]
    rfl
   ·rw[if_neg (by simp;omega),eW,<-eV]
    have:X2=[]\/Y1=[]:=by
     by_cases c2:i<X.length
     ·exact .inr (List.eq_nil_of_length_eq_zero (by omega))
     ·exact .inl (List.eq_nil_of_length_eq_zero (by omega))
    rcases this with rfl|rfl<;>simp
  rw[erot];simp only[AU];have hbV:Bd (A++(X1++(Y1++((X2++Y2)++B)))):=by
   refine hb.perm ?_;rw[eW,<-eV];refine List.Perm.append_left _ ?_;exact List.perm_append_comm_assoc _ _ _
  have hlV:(A++(X1++(Y1++((X2++Y2)++B)))).length<100000:=by simp only[List.length_append,lX1,lX2,lY1,lY2];omega
  obtain⟨M1,f1,f2,f3⟩:∃M1,(if(decide ((A.length:Int)<((A.length+i:Nat):Int))&&decide (((A.length+i:Nat):Int)<(mid:Int)))=true then
    (BH F m (A++(X1++(Y1++((X2++Y2)++B)))) (A.length:Int) ((A.length+i:Nat):Int) (mid:Int)).bind fun x28=>some x28
    else some (A++(X1++(Y1++((X2++Y2)++B)))))=some (A++(M1++((X2++Y2)++B)))/\M1.Perm (X1++Y1)/\Sd M1:=by
   by_cases c:0<i/\0<j
   ·rw[if_pos (by simp;omega)]
    obtain⟨M1,g1,g2,g3⟩:=AII hF m A X1 Y1 ((X2++Y2)++B) (by omega) (by omega) sX1 sY1 hbV hlV (by omega);rw[lX1,lY1,show A.length+i+j=mid by omega]at g1;rw[g1];exact⟨M1,rfl,g2,g3⟩
   ·rw[if_neg (by simp;omega)]
    refine⟨X1++Y1,by simp,.refl _,?_⟩;by_cases c2:0<i
    ·have:Y1=[]:=List.eq_nil_of_length_eq_zero (by omega)
     subst this;simpa using sX1
    ·have:X1=[]:=List.eq_nil_of_length_eq_zero (by omega)
     subst this;simpa using sY1
  rw[f1];simp only[AU];have lM1:M1.length=i+j:=by rw[f2.length_eq,List.length_append,lX1,lY1]
  have lAM:(A++M1).length=mid:=by rw[List.length_append,lM1];omega
  have eU:A++(M1++((X2++Y2)++B))=(A++M1)++(X2++(Y2++B)):=by simp
  have hbU:Bd ((A++M1)++(X2++(Y2++B))):=by
   rw[<-eU];refine hbV.perm (List.Perm.append_left _ ?_);rw[<-List.append_assoc X1];exact List.Perm.append_right _ f2
  obtain⟨M2,g1,g2,g3⟩:∃M2,(if(decide ((mid:Int)<((A.length+X.length+j:Nat):Int))&&decide (((A.length+X.length+j:Nat):Int)<((A.length+X.length+Y.length:Nat):Int)))=true then
    (BH F m (A++(M1++((X2++Y2)++B))) (mid:Int) ((A.length+X.length+j:Nat):Int) ((A.length+X.length+Y.length:Nat):Int)).bind fun x29=>some x29
    else some (A++(M1++((X2++Y2)++B))))=some (A++(M1++(M2++B)))/\M2.Perm (X2++Y2)/\Sd M2:=by
   by_cases c:i<X.length/\j<Y.length
   ·rw[if_pos (by simp;omega)]
    obtain⟨M2,g1,g2,g3⟩:=AII hF m (A++M1) X2 Y2 B (by omega) (by omega) sX2 sY2 hbU (by simp only[List.length_append,lX2,lY2,lM1];omega) (by omega);rw[lAM,lX2,lY2,show mid+(X.length-i)=A.length+X.length+j by omega,show A.length+X.length+j+(Y.length-j)=A.length+X.length+Y.length by omega]at g1;rw[eU,g1];exact⟨M2,by simp,g2,g3⟩
   ·rw[if_neg (by simp;omega)]
    refine⟨X2++Y2,rfl,.refl _,?_⟩;by_cases c2:i<X.length
    ·have:Y2=[]:=List.eq_nil_of_length_eq_zero (by omega)
     subst this;simpa using sX2
    ·have:X2=[]:=List.eq_nil_of_length_eq_zero (by omega)
     subst this;simpa using sY2
  rw[g1];simp only[AU];refine⟨M1++M2,by simp,(f2.append g2).trans hper.symm,AES.2 ⟨f3,g3,?_⟩⟩;refine AJK f2 fun u hu=>?_;refine AJK g2 fun v hv=>?_;rcases List.mem_append.1 hu with hu|hu<;>rcases List.mem_append.1 hv with hv|hv
  ·exact cX u hu v hv
  ·exact P1 u hu v hv
  ·exact P2 u hu v hv
  ·exact cY u hu v hv
theorem ALl{z:List To}{a b:Nat}(h:Srt z a b)(hb:b<=z.length):Sd ((z.take b).drop a):=by
 unfold Sd;rw[List.pairwise_iff_getElem];intro i j hi' hj hij;rw[List.length_drop,List.length_take]at hi' hj;have:=h (a+i) (a+j) (by omega) (by omega) (by omega);rw[AAi (by omega),AAi (by omega)]at this;simpa using this
theorem APU{z:List To}(h:Sd z):Srt z 0 z.length:=fun p q _ hpq hq=>by
 rw[AAi (by omega),AAi hq];exact h.get (by omega) hq
theorem APV{F:Nat}(hF:1000000<F){y:List To}(hb:Bd y)(hl:y.length<=39):∃z,RU F y=some z/\z.Perm y/\Srt z 0 y.length:=by
 by_cases h20:y.length<=20
 ·exact AOG hF hb h20
 obtain⟨G,rfl⟩:∃G,F=G+2:=⟨F-2,by omega⟩;unfold RU vY;unfold EP IB;rw[if_pos (by simp;omega)];obtain⟨z,e1,e2,e3,-⟩:=AER (F:=G+2) (a:=0) (b:=20) hF hb (by omega) (by omega) (by omega);rw[show BA (G+2) y 0 20=some z from e1];simp only[Dq,AU];have lz:=e2.length_eq;unfold EP;rw[show AX ((20:Int)+20)=40 from rfl,if_neg (by simp;omega)];simp only[AU];obtain⟨z2,f1,f2,f3,f4⟩:=AER (F:=G+2) (a:=20) (b:=y.length) hF (hb.perm e2) (by omega) (by omega) (by omega);rw[show BA (G+2) z 20 (y.length:Int)=some z2 from f1];simp only[AU];have lz2:=f2.length_eq;have hs1:Srt z2 0 20:=fun p q h1 h2 h3=>by
  have hh:∀r,r<20->hi z2 r=hi z r:=fun r hr=>by unfold hi;rw[f4 r (by omega)]
  rw[hh p (by omega),hh q h3];exact e3 p q h1 h2 (by omega)
 rw[if_pos (by simp;omega)];rw[show AX ((2:Int)*20)=40 from rfl];unfold Zk;rw[if_neg (by simp;omega)];simp only[AU];rw[show AX ((0:Int)+20)=20 from rfl,if_pos (by simp;omega)];have lt:(z2.take 20).length=20:=by rw[List.length_take];omega
 have ld:(z2.drop 20).length=y.length-20:=by rw[List.length_drop];omega
 have sd1:Sd (z2.take 20):=by have:=ALl hs1 (by omega);simpa using this
 have sd2:Sd (z2.drop 20):=by
  have:=ALl f3 (by omega);rw[List.take_of_length_le (by omega)]at this;exact this
 have ez:([]:List To)++(z2.take 20++(z2.drop 20++[]))=z2:=by rw[List.append_nil,List.take_append_drop];rfl
 obtain⟨M,g1,g2,g3⟩:=AII hF (G+2) [] (z2.take 20) (z2.drop 20) [] (by omega) (by omega) sd1 sd2 (by rw[ez];exact(hb.perm e2).perm f2) (by rw[ez];omega) (by omega);rw[ez,lt,ld]at g1;simp only[List.length_nil,List.nil_append,List.append_nil,Nat.zero_add]at g1;rw[show 20+(y.length-20)=y.length by omega]at g1;unfold wV;rw[show BH (G+2) (G+2) z2 0 20 (y.length:Int)=some M from g1];simp only[AU];unfold IB;rw[show AX ((20:Int)*2)=40 from rfl,if_neg (by simp;omega)];rw[List.take_append_drop]at g2;have lM:M.length=y.length:=by rw[g2.length_eq];omega
 refine⟨M,rfl,(g2.trans f2).trans e2,?_⟩;have:=APU g3;rwa [lM]at this
abbrev SL:Nat:=24
theorem AGt{l:List (Int×Int)}{f:(Int×Int)->Option Bool}(F:Nat):∀m k,iW F l f m k=ABz l f m k
 |0,_=>rfl
 |m+1,k=>by unfold iW ABz;simp only[AGt F m]
theorem ALm{l:List (Int×Int)}{f:(Int×Int)->Option Bool}{p:(Int×Int)->Bool}{F:Nat}(hf:∀x∈l,f x=some (p x))(hF:l.length<F)(hl:l.length<4611686018427387904):wU F l f=some (l.any p):=by
 obtain⟨r,h1,h2,h3⟩:=AB0 hf hl F 0 (Nat.zero_le _) (by omega);unfold wU yM;rw[AGt];simp only[Int.natCast_zero,List.drop_zero]at h1 h2 h3;rw[h1];cases hp:l.any p with
 |true=>obtain⟨j,rfl⟩:=h2 hp;simp
 |false=>rw[h3 hp];simp
def okR(x:Int×Int):Bool:=!((decide (x.1<0)||decide (x.2<x.1))||decide (10000<x.2))
theorem ABk{x:Int×Int}:okR x=true↔0<=x.1/\x.1<=x.2/\x.2<=10000:=by
 unfold okR;simp;omega
theorem within_eq{F:Nat}{l:List (Int×Int)}(hF:l.length<F)(hl:l.length<4611686018427387904):AA8 F l=some (l.all okR):=by
 unfold AA8;rw[ALm (p:=fun x=>!okR x) (fun x _=>by unfold ABG okR;rw[Bool.not_not]) hF hl];simp only[Dq,AU];rw[AOE,Bool.not_not]
def yj(l:List (Int×Int)):Int:=if l.length=0\/24<l.length then 6 else if l.all okR=true then 0 else 2
theorem ABD{l:List (Int×Int)}:yj l=0↔1<=l.length/\l.length<=24/\∀x∈l,okR x=true:=by
 unfold yj;by_cases h:l.length=0\/24<l.length
 ·rw[if_pos h];constructor
  ·intro e;cases e
  ·omega
 ·rw[if_neg h]
  by_cases h2:l.all okR=true
  ·rw[if_pos h2];rw[List.all_eq_true]at h2;exact⟨fun _=>⟨by omega,by omega,h2⟩,fun _=>rfl⟩
  ·rw[if_neg h2];constructor
   ·intro e;cases e
   ·intro h3;exact absurd (List.all_eq_true.2 h3.2.2) h2
theorem ACs{F:Nat}(hF:100<F)(l:List (Int×Int)):yZ F l=some (yj l):=by
 unfold yZ yj;by_cases h:l.length=0\/24<l.length
 ·rw[if_pos h,if_pos (by simp only[Bool.or_eq_true,decide_eq_true_eq];omega)]
 ·rw[if_neg h,if_neg (by simp only[Bool.or_eq_true,decide_eq_true_eq];omega),within_eq (by omega) (by omega)]
  simp only[Dq,AU];cases l.all okR<;>rfl
theorem AD0{F:Nat}{l:List (Int×Int)}(hl:l.length<4611686018427387904):∀(m k:Nat),k<=l.length->l.length-k<m->
  xw F l m (k:Int)=some (if(l.drop k).all okR=true then .inr ()else .inl 2)
 |0,k,_,h=>by omega
 |m+1,k,hk,h=>by
  unfold xw;by_cases hlt:k<l.length
  ·rw[if_pos (by simpa using hlt),uT hlt]
   have hd:l.drop k=l[k]::l.drop (k+1):=List.drop_eq_getElem_cons hlt;simp only[Dq,AU];have ih:=AD0 (F:=F) hl m (k+1) (by omega) (by omega);rw[hd,List.all_cons];have hx:(if(decide (l[k].1<0))=true then if True then some true else some (decide (10000<l[k].2))else if(decide (l[k].2<l[k].1))=true then some true else some (decide (10000<l[k].2)):Option Bool)=some (!okR l[k]):=by
    unfold okR;rw[Bool.not_not];by_cases a:l[k].1<0<;>by_cases b:l[k].2<l[k].1<;>simp[a,b]
   rw[hx];simp only[AU];cases okR l[k]
   ·rfl
   ·rw[if_neg (by simp),DJ (by omega)]
    exact ih
  ·rw[if_neg (by simpa using hlt),List.drop_of_length_le (by omega)]
   rfl
theorem ACG{F:Nat}(hF:100<F)(l:List (Int×Int)):xQ F l=some (yj l):=by
 unfold xQ yj;by_cases h:l.length=0\/24<l.length
 ·rw[if_pos h,if_pos (by simp only[Bool.or_eq_true,decide_eq_true_eq];omega)]
 ·rw[if_neg h,if_neg (by simp only[Bool.or_eq_true,decide_eq_true_eq];omega)]
  have:=AD0 (F:=F) (l:=l) (by omega) F 0 (by omega) (by omega);rw[show((0:Nat):Int)=0 from rfl,List.drop_zero]at this;rw[this];cases l.all okR<;>rfl
def tn:Nat->List (Int×Int)->List To
 |_,[]=>[]
 |k,a::l=>(a,(k:Int))::tn (k+1) l
theorem ADV:∀(l:List (Int×Int))(k:Nat),(tn k l).length=l.length
 |[],_=>rfl
 |a::l,k=>by simp[tn,ADV l]
theorem AET{x:To}:∀(l:List (Int×Int))(k:Nat),x∈tn k l↔∃i:Nat,l[i]?=some x.1/\x.2=((k+i:Nat):Int)
 |[],k=>by simp[tn]
 |a::l,k=>by
  rw[tn,List.mem_cons,AET l (k+1)];constructor
  ·rintro(rfl|⟨i,h1,h2⟩)
   ·exact⟨0,rfl,rfl⟩
   ·exact⟨i+1,by simpa using h1,by rw[h2];congr 1;omega⟩
  ·rintro⟨i,h1,h2⟩
   cases i with
   |zero=>
    left;have:a=x.1:=by simpa using h1
    rw[this];exact Prod.ext rfl h2
   |succ i=>right;exact⟨i,by simpa using h1,by rw[h2];congr 1;omega⟩
theorem AF2{F:Nat}{l:List (Int×Int)}(hl:l.length<=1000):∀(m k:Nat)(Y:List To),k<=l.length->l.length-k<m->Y.length<=k->
  xu F l m (k:Int) ⟨Y⟩=some ⟨Y++tn k (l.drop k)⟩
 |0,k,_,_,h,_=>by omega
 |m+1,k,Y,hk,h,hY=>by
  unfold xu;by_cases hlt:k<l.length
  ·rw[if_pos (by simpa using hlt),uT hlt]
   have hd:l.drop k=l[k]::l.drop (k+1):=List.drop_eq_getElem_cons hlt;simp only[Dq,AU];rw[ABA (by simp only[List.length_cons,List.length_nil];omega)];simp only[AU];rw[show AX ((k:Int)+1)=((k+1:Nat):Int) by rw[DJ (by omega)];rfl,AF2 hl m (k+1) _ (by omega) (by omega) (by simp only[List.length_append,List.length_cons,List.length_nil];omega),hd,tn,List.append_assoc]
   rfl
  ·rw[if_neg (by simpa using hlt),List.drop_of_length_le (by omega)]
   simp[tn]
theorem AQj{l:List (Int×Int)}(h:∀x∈l,okR x=true):Bd (tn 0 l):=by
 intro x hx;obtain⟨i,h1,-⟩:=(AET l 0).1 hx;have:=ABk.1 (h x.1 (List.mem_of_getElem? h1));omega
abbrev Asc(S:List To):Prop:=S.Pairwise fun x y=>x.1.2<=y.1.2
theorem ADI{F:Nat}(hF:1000000<F){l:List (Int×Int)}(hl':l.length<=39)(h:∀x∈l,okR x=true):
  ∃S,yL F l=some ⟨some ⟨S⟩⟩/\S.Perm (tn 0 l)/\Asc S:=by
 unfold yL;have e:=AF2 (F:=F) (l:=l) (by omega) F 0 [] (by omega) (by omega) (Nat.le_refl _);rw[List.drop_zero,List.nil_append]at e;rw[show xu F l F 0 ⟨[]⟩=some ⟨tn 0 l⟩from e];simp only[Dq,AU];obtain⟨S,h1,h2,h3⟩:=APV hF (AQj h) (by rw[ADV];omega);rw[h1];refine⟨S,rfl,h2,?_⟩;rw[Asc,List.pairwise_iff_getElem];intro i j hi' hj hij;have:=h3 i j (Nat.zero_le _) hij (by rw[<-h2.length_eq];exact hj);rwa [AAi hi',AAi hj]at this
theorem AKb{F:Nat}(hF:1000000<F){l:List (Int×Int)}(hl:l.length<=SL)(h:∀x∈l,okR x=true):∃S,yL F l=some ⟨some ⟨S⟩⟩/\S.Perm (tn 0 l)/\Asc S:=ADI hF (Nat.le_trans hl (by decide)) h
def gr:List To->Int->List To
 |[],_=>[]
 |x::us,y=>if x.1.1<=y then gr us y else x::gr us x.1.2
theorem high_l1{F:Nat}:∀(S:List To)(s t:List Int)(y:Int),(∀x∈S,x.1.1<=x.1.2)->s.length+S.length<=1000->t.length+S.length<=1000->
  ∃z,X9 F (1,0) S s t y=some (s++(gr S y).map (·.1.2),t++(gr S y).map (·.2),z)
 |[],s,t,y,_,_,_=>⟨y,by simp[X9,gr]⟩
 |x::us,s,t,y,h,h1,h2=>by
  unfold X9 gr;rw[List.length_cons]at h1 h2;by_cases c:x.1.1<=y
  ·rw[if_pos (by simpa using c),if_pos c]
   exact high_l1 us s t y (fun x hx=>h x (List.mem_cons_of_mem _ hx)) (by omega) (by omega)
  ·rw[if_neg (by simpa using c),if_neg c]
   rw[if_neg (show¬((decide (((1:Int),(0:Int)).1<=x.1.2))&&(decide (x.1.2<=((1:Int),(0:Int)).2)))=true by simp;omega)];simp only[Dq,AU];rw[ABA (by simp only[List.length_cons,List.length_nil];omega)];simp only[AU];have:=h x List.mem_cons_self;rw[if_neg (show¬decide (x.1.2<x.1.1)=true by simp;omega),ABA (by simp only[List.length_cons,List.length_nil];omega)];simp only[AU];obtain⟨z,e⟩:=high_l1 (F:=F) us (s++[x.1.2]) (t++[x.2]) x.1.2 (fun x hx=>h x (List.mem_cons_of_mem _ hx)) (by simp only[List.length_append,List.length_cons,List.length_nil];omega) (by simp only[List.length_append,List.length_cons,List.length_nil];omega);exact⟨z,by rw[e];simp⟩
theorem AJL{F:Nat}{S:List To}(h:∀x∈S,x.1.1<=x.1.2)(hl:S.length<=1000):wQ F ⟨S⟩ (1,0)=some ((gr S (-1)).map (·.1.2),(gr S (-1)).map (·.2)):=by
 unfold wQ;obtain⟨z,e⟩:=high_l1 (F:=F) S [] [] (-1) h (by simpa using hl) (by simpa using hl);show(X9 F (1,0) S [] [] (-1))>>=_=_;rw[e];rfl
theorem AEU:∀(S:List To)(y:Int),(gr S y).Sublist S
 |[],_=>.slnil
 |a::us,y=>by
  unfold gr;split
  ·exact(AEU us y).cons _
  ·exact(AEU us _).cons_cons _
theorem AKc:∀(S:List To)(y:Int),(∀x∈S,x.1.1<=x.1.2)->∀x∈gr S y,y<x.1.1
 |[],_,_,x,h=>by cases h
 |a::us,y,hv,x,h=>by
  unfold gr at h;split at h
  ·exact AKc us y (fun x hx=>hv x (List.mem_cons_of_mem _ hx)) x h
  ·rename_i c
   have:=hv a List.mem_cons_self;rcases List.mem_cons.1 h with rfl|h
   ·omega
   ·have:=AKc us a.1.2 (fun x hx=>hv x (List.mem_cons_of_mem _ hx)) x h;omega
theorem AFF:∀(S:List To)(y:Int),(∀x∈S,x.1.1<=x.1.2)->(gr S y).Pairwise fun a b=>a.1.2<b.1.1
 |[],_,_=>.nil
 |a::us,y,hv=>by
  have hv':=fun x hx=>hv x (List.mem_cons_of_mem _ hx);unfold gr;split
  ·exact AFF us y hv'
  ·exact .cons (fun x hx=>AKc us _ hv' x hx) (AFF us _ hv')
theorem AIJ:∀(S:List To)(y:Int),(∀x∈S,x.1.1<=x.1.2)->Asc S->(∀x∈S,y<=x.1.2)->∀x∈S,(x.1.1<=y)\/∃g∈gr S y,x.1.1<=g.1.2/\g.1.2<=x.1.2
 |[],_,_,_,_,x,h=>by cases h
 |a::us,y,hv,hs,hy,x,h=>by
  have hv':=fun x hx=>hv x (List.mem_cons_of_mem _ hx);have hs':=List.pairwise_cons.1 hs;unfold gr;split
  ·rename_i c
   rcases List.mem_cons.1 h with rfl|h
   ·exact .inl c
   ·exact AIJ us y hv' hs'.2 (fun x hx=>hy x (List.mem_cons_of_mem _ hx)) x h
  ·rename_i c
   rcases List.mem_cons.1 h with rfl|h
   ·exact .inr ⟨_,List.mem_cons_self,hv _ List.mem_cons_self,Int.le_refl _⟩
   ·rcases AIJ us a.1.2 hv' hs'.2 (fun x hx=>hs'.1 x hx) x h with h1|⟨g,h1,h2⟩
    ·exact .inr ⟨_,List.mem_cons_self,h1,hs'.1 x h⟩
    ·exact .inr ⟨g,List.mem_cons_of_mem _ h1,h2⟩
def okS(v:Int):Bool:=decide (0<=v)&&decide (v<=10000)
def ACt(q:List Int):Bool:=decide (q.Pairwise (·<·))
def met(q:List Int)(r:Int×Int):Bool:=q.any fun v=>decide (r.1<=v)&&decide (v<=r.2)
theorem AOH{q:List Int}{r:Int×Int}:met q r=true↔∃e∈q,r.1<=e/\e<=r.2:=by
 unfold met;simp
def ADs(l:List (Int×Int))(q:List Int):Int:=
 if yj l≠0 then yj l else if 24<q.length then 6 else if q.all okS=false then 3 else if ACt q=false then 16 else 0
def AEV(l:List (Int×Int))(q:List Int):Int:=if ADs l q≠0 then ADs l q else if l.all (met q)=true then 0 else 19
theorem ALo{l:List (Int×Int)}{q:List Int}(h:yj l=0)(hl:q.length<=24)(h1:∀v∈q,0<=v/\v<=10000)(h2:q.Pairwise (·<·))(h3:∀r∈l,∃e∈q,r.1<=e/\e<=r.2):AEV l q=0:=by
 have e1:q.all okS=true:=List.all_eq_true.2 fun v hv=>by have:=h1 v hv;unfold okS;simp;omega
 have e2:ACt q=true:=decide_eq_true h2;have e:ADs l q=0:=by
  unfold ADs;rw[if_neg (fun e=>e h),if_neg (by omega),if_neg (by rw[e1];simp),if_neg (by rw[e2];simp)]
 unfold AEV;rw[if_neg (fun h=>h e),if_pos (List.all_eq_true.2 fun r hr=>AOH.2 (h3 r hr))]
theorem AOI{q:List Int}{k:Nat}(hk:1<=k)(hlt:k<q.length):ACt (q.drop (k-1))=(decide (q[k-1]<q[k])&&ACt (q.drop k)):=by
 have e1:q.drop (k-1)=q[k-1]::q.drop k:=by
  have:=List.drop_eq_getElem_cons (show k-1<q.length by omega);rw[this];congr 2;omega
 have e2:q.drop k=q[k]::q.drop (k+1):=List.drop_eq_getElem_cons hlt;unfold ACt;rw[<-Bool.decide_and,e1];apply decide_eq_decide.2;rw[List.pairwise_cons];constructor
 ·rintro⟨h1,h2⟩;exact⟨h1 _ (by rw[e2];exact List.mem_cons_self),h2⟩
 ·rintro⟨h1,h2⟩
  refine⟨fun v hv=>?_,h2⟩;rw[e2]at hv h2;rcases List.mem_cons.1 hv with rfl|hv
  ·exact h1
  ·exact Int.lt_trans h1 ((List.pairwise_cons.1 h2).1 v hv)
theorem AIK{F:Nat}{q:List Int}(hl:q.length<1000000):∀(m k:Nat),1<=k->q.length-k<m->
  AAg F q m (k:Int)=some (if ACt (q.drop (k-1))=true then .inr ()else .inl 16)
 |0,k,_,h=>by omega
 |m+1,k,hk,h=>by
  unfold AAg;by_cases hlt:k<q.length
  ·rw[if_pos (by simpa using hlt),uT hlt,show AX ((k:Int)-1)=((k-1:Nat):Int) by rw[DJ (by omega)];omega,uT (show k-1<q.length by omega)]
   simp only[Dq,AU];rw[AOI hk hlt];by_cases c:q[k-1]<q[k]
   ·rw[if_neg (by simpa using c),show AX ((k:Int)+1)=((k+1:Nat):Int) by rw[DJ (by omega)];rfl,AIK hl m (k+1) (by omega) (by omega),decide_eq_true c,Bool.true_and]
    rfl
   ·rw[if_pos (by simpa using c),decide_eq_false c,Bool.false_and];rfl
  ·rw[if_neg (by simpa using hlt)]
   have:ACt (q.drop (k-1))=true:=by
    unfold ACt;apply decide_eq_true;have hl2:(q.drop (k-1)).length<=1:=by rw[List.length_drop];omega
    match q.drop (k-1),hl2 with
    |[],_=>exact .nil
    |[a],_=>simp
   rw[this];rfl
theorem AF3{F:Nat}{q:List Int}(hl:q.length<1000000):∀(m k:Nat),k<=q.length->q.length-k<m->
  yO F q m (k:Int)=some (if(q.drop k).all okS=true then .inr ()else .inl 3)
 |0,k,_,h=>by omega
 |m+1,k,hk,h=>by
  unfold yO;by_cases hlt:k<q.length
  ·rw[if_pos (by simpa using hlt),uT hlt]
   have hd:q.drop k=q[k]::q.drop (k+1):=List.drop_eq_getElem_cons hlt;simp only[Dq,AU];rw[hd,List.all_cons];have hx:(if(decide (q[k]<0))=true then some true else some (decide (10000<q[k])):Option Bool)=some (!okS q[k]):=by
    unfold okS;by_cases a:q[k]<0
    ·rw[if_pos (by simpa using a)];congr 1;symm;simp;omega
    ·rw[if_neg (by simpa using a)];congr 1;rw[Bool.eq_iff_iff];simp;omega
   rw[hx];simp only[AU];cases okS q[k]
   ·rfl
   ·rw[if_neg (by simp),show AX ((k:Int)+1)=((k+1:Nat):Int) by rw[DJ (by omega)];rfl,AF3 hl m (k+1) (by omega) (by omega)]
    rfl
  ·rw[if_neg (by simpa using hlt),List.drop_of_length_le (by omega)]
   rfl
theorem AKd{F:Nat}{q:List Int}(hl:q.length<1000000):∀(m k:Nat),1<=k->q.length-k<m->
  xB F q m (k:Int)=some (if ACt (q.drop (k-1))=true then .inr ()else .inl 16)
 |0,k,_,h=>by omega
 |m+1,k,hk,h=>by
  have e:∀m k,xB F q m k=AAg F q m k:=by
   intro m
   induction m with
   |zero=>intro k;rfl
   |succ m ih=>intro k;unfold xB AAg;simp only[ih]
  rw[e];exact AIK hl (m+1) k hk h
theorem AKe{F:Nat}(hF:1000000<F){l:List (Int×Int)}{q:List Int}:AAS F l q=some (ADs l q):=by
 unfold AAS ADs;rw[ACG (by omega)];simp only[Dq,AU];by_cases c0:yj l=0
 ·rw[if_neg (by simpa using c0),if_neg (show¬(yj l≠0)from fun e=>e c0)]
  by_cases c1:24<q.length
  ·rw[if_pos (by simp;omega),if_pos c1]
  ·rw[if_neg (by simp;omega),if_neg c1]
   have h1:=AF3 (F:=F) (q:=q) (by omega) F 0 (by omega) (by omega);rw[show((0:Nat):Int)=0 from rfl,List.drop_zero]at h1;rw[h1];cases c2:q.all okS with
   |false=>rfl
   |true=>
    have h2:=AKd (F:=F) (q:=q) (by omega) F 1 (Nat.le_refl _) (by omega);rw[show((1:Nat):Int)=1 from rfl,show 1-1=0 from rfl,List.drop_zero]at h2;show(xB F q F 1).bind _=some (if ACt q=false then 16 else 0);rw[h2];cases ACt q<;>rfl
 ·rw[if_pos (by simpa using c0),if_pos c0]
theorem AIL{F:Nat}{r:Int×Int}{q:List Int}(hl:q.length<1000000):∀(m k:Nat),k<=q.length->q.length-k<m->
  zO F r q m (k:Int)=some (if met (q.drop k) r=true then .inl true else .inr ())
 |0,k,_,h=>by omega
 |m+1,k,hk,h=>by
  unfold zO;by_cases hlt:k<q.length
  ·rw[if_pos (by simpa using hlt),uT hlt]
   have hd:q.drop k=q[k]::q.drop (k+1):=List.drop_eq_getElem_cons hlt;simp only[Dq,AU];have hx:(if(decide (r.1<=q[k]))=true then some (decide (q[k]<=r.2))else some false:Option Bool)=some (decide (r.1<=q[k])&&decide (q[k]<=r.2)):=by
    by_cases a:r.1<=q[k]<;>simp[a]
   rw[hx];simp only[AU];have hm:met (q.drop k) r=((decide (r.1<=q[k])&&decide (q[k]<=r.2))||met (q.drop (k+1)) r):=by rw[hd];rfl
   rw[hm];cases(decide (r.1<=q[k])&&decide (q[k]<=r.2))with
   |true=>rfl
   |false=>rw[if_neg (by simp),show AX ((k:Int)+1)=((k+1:Nat):Int) by rw[DJ (by omega)];rfl,AIL hl m (k+1) (by omega) (by omega),Bool.false_or]
  ·rw[if_neg (by simpa using hlt),List.drop_of_length_le (by omega)]
   rfl
theorem AMy{F:Nat}{r:Int×Int}{q:List Int}(hl:q.length<1000000)(hF:1000000<F):ABV F r q=some (met q r):=by
 unfold ABV;have h1:=AIL (F:=F) (r:=r) hl F 0 (by omega) (by omega);rw[show((0:Nat):Int)=0 from rfl,List.drop_zero]at h1;rw[h1];cases met q r<;>rfl
theorem AGv{F:Nat}{l:List (Int×Int)}{q:List Int}(hq:q.length<1000000)(hF:1000000<F)(hl:l.length<1000000):∀(m k:Nat),k<=l.length->l.length-k<m->
  xI F l q m (k:Int)=some (if(l.drop k).all (met q)=true then .inr ()else .inl 19)
 |0,k,_,h=>by omega
 |m+1,k,hk,h=>by
  unfold xI;by_cases hlt:k<l.length
  ·rw[if_pos (by simpa using hlt),uT hlt]
   have hd:l.drop k=l[k]::l.drop (k+1):=List.drop_eq_getElem_cons hlt;simp only[Dq,AU];rw[AMy hq hF,hd,List.all_cons];simp only[AU];rw[show met q (l[k].1,l[k].2)=met q l[k]from rfl];cases met q l[k]with
   |false=>rfl
   |true=>rw[Bool.not_true,if_neg (by simp),show AX ((k:Int)+1)=((k+1:Nat):Int) by rw[DJ (by omega)];rfl,AGv hq hF hl m (k+1) (by omega) (by omega),Bool.true_and]
  ·rw[if_neg (by simpa using hlt),List.drop_of_length_le (by omega)]
   rfl
theorem AMz{l:List (Int×Int)}{q:List Int}(h:ADs l q=0):yj l=0/\q.length<=24:=by
 unfold ADs at h;by_cases c0:yj l≠0
 ·rw[if_pos c0]at h;exact absurd h c0
 rw[if_neg c0]at h;by_cases c1:24<q.length
 ·rw[if_pos c1]at h;cases h
 exact⟨Decidable.not_not.1 c0,by omega⟩
theorem AGw{F:Nat}(hF:1000000<F){l:List (Int×Int)}{q:List Int}:zQ F l q=some (AEV l q):=by
 unfold zQ AEV;rw[AKe hF];simp only[Dq,AU];by_cases c:ADs l q=0
 ·rw[if_neg (by simpa using c),if_neg (fun e=>e c)]
  obtain⟨h1,h2⟩:=AMz c;have h3:=ABD.1 h1;have h4:=AGv (F:=F) (l:=l) (q:=q) (by omega) hF (by omega) F 0 (by omega) (by omega);rw[show((0:Nat):Int)=0 from rfl,List.drop_zero]at h4;rw[h4];cases l.all (met q)<;>rfl
 ·rw[if_pos (by simpa using c),if_pos c]
theorem ALp{l:List (Int×Int)}(h:∀x∈l,okR x=true){S:List To}(hp:S.Perm (tn 0 l)):∀x∈S,0<=x.1.1/\x.1.1<=x.1.2/\x.1.2<=10000:=by
 intro x hx;obtain⟨i,h1,-⟩:=(AET l 0).1 (hp.mem_iff.1 hx);exact ABk.1 (h x.1 (List.mem_of_getElem? h1))
theorem AIM(a:Int):∀l:List Int,(ADe a l).length=l.length+1
 |[]=>rfl
 |b::l=>by unfold ADe;split<;>simp[AIM a l]
theorem AGx:∀l:List Int,(AAc l).length=l.length
 |[]=>rfl
 |a::l=>by unfold AAc;rw[AIM,AGx l];rfl
structure Short(l:List (Int×Int))(G:List To):Prop where
 mem:∀g∈G,∃i:Nat,l[i]?=some g.1/\g.2=(i:Int)
 apart:G.Pairwise fun a b=>a.1.2<b.1.1
 met:∀r∈l,∃g∈G,r.1<=g.1.2/\g.1.2<=r.2
 len:G.length<=l.length
theorem Short.asc{l:List (Int×Int)}{G:List To}(h:Short l G)(hv:∀x∈l,okR x=true):(G.map (·.1.2)).Pairwise (·<·):=by
 rw[List.pairwise_map];refine h.apart.imp_of_mem fun{a b} ha hb hab=>?_;obtain⟨i,h1,-⟩:=h.mem b hb;have:=ABk.1 (hv _ (List.mem_of_getElem? h1));omega
theorem Short.bd{l:List (Int×Int)}{G:List To}(h:Short l G)(hv:∀x∈l,okR x=true):∀v∈G.map (·.1.2),0<=v/\v<=10000:=by
 intro v hv';obtain⟨g,hg,rfl⟩:=List.mem_map.1 hv';obtain⟨i,h1,-⟩:=h.mem g hg;have:=ABk.1 (hv _ (List.mem_of_getElem? h1));omega
theorem Short.scale{l:List (Int×Int)}{G:List To}(h:Short l G)(hs:yj l=0):AEV l (G.map (·.1.2))=0:=by
 have h3:=ABD.1 hs;refine ALo hs (by rw[List.length_map];have:=h.len;omega) (h.bd h3.2.2) (h.asc h3.2.2) (fun r hr=>?_);obtain⟨g,hg,h1,h2⟩:=h.met r hr;exact⟨_,List.mem_map.2 ⟨g,hg,rfl⟩,h1,h2⟩
theorem AM0{l:List (Int×Int)}(hv:∀x∈l,okR x=true){S:List To}(hp:S.Perm (tn 0 l))(ha:Asc S):Short l (gr S (-1)):=by
 have hok:=ALp hv hp;have hle:∀x∈S,x.1.1<=x.1.2:=fun x hx=>(hok x hx).2.1;refine⟨fun g hg=>?_,AFF S _ hle,fun r hr=>?_,?_⟩
 ·obtain⟨i,h1,h2⟩:=(AET l 0).1 (hp.mem_iff.1 ((AEU S _).subset hg))
  exact⟨i,h1,by rw[h2];congr 1;omega⟩
 ·obtain⟨i,hi,h4⟩:=List.mem_iff_getElem.1 hr
  have hx:(r,(i:Int))∈S:=hp.mem_iff.2 ((AET l 0).2 ⟨i,by rw[List.getElem?_eq_getElem hi,h4],by show(i:Int)=_;congr 1;omega⟩);rcases AIJ S (-1) hle ha (fun x hx=>by have:=hok x hx;omega) _ hx with h|⟨g,h1,h2⟩
  ·have:=hok _ hx;simp only at this h;omega
  ·exact⟨g,h1,h2⟩
 ·have:=(AEU S (-1)).length_le
  rwa [hp.length_eq,ADV]at this
theorem AGy{F:Nat}(hF:1000000<F){l:List (Int×Int)}(hs:yj l=0)(hl:l.length<=SL):
  ∃G,Short l G/\zi F l=some (G.map (·.1.2),0)/\∃T,ABX F l=some (T,0)/\T=AAc (G.map (·.2)):=by
 have h3:=ABD.1 hs;obtain⟨S,e1,hp,ha⟩:=AKb hF hl h3.2.2;have hok:=ALp h3.2.2 hp;have hle:∀x∈S,x.1.1<=x.1.2:=fun x hx=>(hok x hx).2.1;have hSl:S.length<=1000:=by rw[hp.length_eq,ADV];omega
 have hsh:=AM0 h3.2.2 hp ha;refine⟨gr S (-1),hsh,?_,_,?_,rfl⟩
 ·unfold zi
  rw[ACs (by omega),hs];simp only[Dq,AU];rw[if_neg (by simp),e1];simp only[AU];rw[AJL hle hSl]
  rfl
 ·unfold ABX
  rw[ACs (by omega),hs];simp only[Dq,AU];rw[if_neg (by simp),e1];simp only[AU];rw[AJL hle hSl];simp only[AU];have hn:((gr S (-1)).map (·.2)).length<=1000:=by rw[List.length_map];exact Nat.le_trans (AEU S (-1)).length_le hSl
  generalize(gr S (-1)).map (·.2)=k at hn;have hm:mks 8 (k.length:Int) (0:Int)=some (List.replicate k.length 0):=by
   unfold mks;rw[if_pos ⟨by omega,by rw[Int.toNat_natCast];omega⟩,Int.toNat_natCast]
  rw[hm];simp only[AU];have hc:ACJ (List.replicate k.length (0:Int)) k=k:=by
   unfold ACJ;rw[List.length_replicate,List.take_length,List.drop_of_length_le (by simp),List.append_nil]
  rw[hc];unfold slices_Sort_int;rw[if_pos (by omega)]
  rfl
theorem AIN{F:Nat}{l:List (Int×Int)}{T:List Int}(hT:∀v∈T,0<=v/\v<(l.length:Int))(hs:T.Pairwise (·<·))(hl:T.length<1000000):∀(m k:Nat),k<=T.length->T.length-k<m->
  xJ F l T m (k:Int)=some (.inr ())
 |0,k,_,h=>by omega
 |m+1,k,hk,h=>by
  unfold xJ;by_cases hlt:k<T.length
  ·have h1:=hT _ (List.getElem_mem hlt)
   rw[if_pos (by simpa using hlt),uT hlt];simp only[Dq,AU];rw[if_neg (by simp only[decide_eq_true_eq];omega),if_neg (by simp only[decide_eq_true_eq];omega)];have hw:AX ((k:Int)+1)=((k+1:Nat):Int):=by rw[DJ (by omega)];rfl
   have ih:=AIN (F:=F) hT hs hl m (k+1) (by omega) (by omega);by_cases h0:0<k
   ·have ew:AX ((k:Int)-1)=((k-1:Nat):Int):=by rw[DJ (by omega)];omega
    have:=(List.pairwise_iff_getElem.1 hs) (k-1) k (by omega) hlt (by omega);rw[if_pos (by simpa using h0),ew,uT (show k-1<T.length by omega)];simp only[AU];rw[if_neg (by simp only[decide_eq_true_eq];omega),hw];exact ih
   ·rw[if_neg (by simpa using h0)]
    simp only[AU];rw[if_neg (by simp),hw];exact ih
  ·rw[if_neg (by simpa using hlt)]
def Dj(a b:Int×Int):Prop:=a.2<b.1\/b.2<a.1
theorem AIO{F:Nat}{l:List (Int×Int)}{T:List Int}(hT:∀v∈T,0<=v/\v<(l.length:Int))(hl:T.length<1000000){i:Nat}(hi:i<T.length)
  (hd:∀j:Nat,j<i->∀(a b:Int×Int)(v:Int),T[j]?=some v->l[v.toNat]?=some b->l[T[i].toNat]?=some a->Dj a b):∀(m k:Nat),k<=i->i-k<m->
  xK F l T (i:Int) m (k:Int)=some (.inr ())
 |0,k,_,h=>by omega
 |m+1,k,hk,h=>by
  unfold xK;by_cases hlt:k<i
  ·have hkl:k<T.length:=by omega
   have h1:=hT _ (List.getElem_mem hi);have h2:=hT _ (List.getElem_mem hkl);obtain⟨a,ea⟩:∃a,l[T[i].toNat]?=some a:=⟨_,List.getElem?_eq_getElem (show T[i].toNat<l.length by omega)⟩;obtain⟨b,eb⟩:∃b,l[T[k].toNat]?=some b:=⟨_,List.getElem?_eq_getElem (show T[k].toNat<l.length by omega)⟩;have e1:ix l T[i]=some a:=by unfold ix;rw[if_pos h1.1,ea]
   have e2:ix l T[k]=some b:=by unfold ix;rw[if_pos h2.1,eb]
   have:=hd k hlt a b _ (List.getElem?_eq_getElem hkl) eb ea;rw[if_pos (by simpa using hlt),uT hi];simp only[Dq,AU];rw[e1];simp only[AU];rw[uT hkl];simp only[AU];rw[e2];simp only[AU];unfold Dj at this;rw[if_neg (by rw[decide_eq_true_eq];show¬(if a.1<b.1 then b.1 else a.1)<=(if b.2<a.2 then b.2 else a.2);split<;>split<;>omega),DJ (by omega)];exact AIO hT hl hi hd m (k+1) (by omega) (by omega)
  ·rw[if_neg (by simpa using hlt)]
theorem AIP{F:Nat}{l:List (Int×Int)}{T:List Int}(hF:1000000<F)(hT:∀v∈T,0<=v/\v<(l.length:Int))(hl:T.length<1000000)
  (hd:∀i j:Nat,j<i->∀(a b:Int×Int)(u v:Int),T[i]?=some u->T[j]?=some v->l[v.toNat]?=some b->l[u.toNat]?=some a->Dj a b):∀(m k:Nat),k<=T.length->T.length-k<m->
  xM F l T m (k:Int)=some (.inr ())
 |0,k,_,h=>by omega
 |m+1,k,hk,h=>by
  unfold xM;by_cases hlt:k<T.length
  ·rw[if_pos (by simpa using hlt)]
   have e:=AIO (F:=F) hT hl hlt (fun j hj a b v h1 h2 h3=>hd k j hj a b _ v (List.getElem?_eq_getElem hlt) h1 h2 h3) F 0 (Nat.zero_le _) (by omega);rw[show((0:Nat):Int)=0 from rfl]at e;rw[e];simp only[Dq,AU];rw[DJ (by omega)];exact AIP hF hT hl hd m (k+1) (by omega) (by omega)
  ·rw[if_neg (by simpa using hlt)]
theorem AM1{F:Nat}{l:List (Int×Int)}{T:List Int}(hF:1000000<F)(hs:yj l=0)(hT:∀v∈T,0<=v/\v<(l.length:Int))(ha:T.Pairwise (·<·))(hl:T.length<1000000)
  (hd:∀i j:Nat,j<i->∀(a b:Int×Int)(u v:Int),T[i]?=some u->T[j]?=some v->l[v.toNat]?=some b->l[u.toNat]?=some a->Dj a b):zS F l T=some 0:=by
 unfold zS;have e1:=AIN (F:=F) hT ha hl F 0 (Nat.zero_le _) (by omega);have e2:=AIP hF hT hl hd F 0 (Nat.zero_le _) (by omega);rw[show((0:Nat):Int)=0 from rfl]at e1 e2;rw[ACG (by omega),hs];simp only[Dq,AU];rw[if_neg (by simp),e1];simp only[AU];rw[e2]
 rfl
structure Steps(l:List (Int×Int))(G:List To)(T:List Int)(s:Nat->Nat):Prop where
 len:T.length=G.length
 up:T.Pairwise (·<·)
 rg:∀v∈T,0<=v/\v<(l.length:Int)
 st:∀i,i<G.length->s i<G.length/\∃g,G[s i]?=some g/\T[i]?=some g.2/\l[g.2.toNat]?=some g.1
 inj:∀i j,i<G.length->j<G.length->s i=s j->i=j
 sur:∀k,k<G.length->∃i,i<G.length/\s i=k
theorem Short.at{l:List (Int×Int)}{G:List To}(h:Short l G){i j:Nat}(hij:i<j){a b:To}(ha:G[i]?=some a)(hb:G[j]?=some b):a.1.2<b.1.1:=by
 obtain⟨h1,rfl⟩:=List.getElem?_eq_some_iff.1 ha;obtain⟨h2,rfl⟩:=List.getElem?_eq_some_iff.1 hb;exact(List.pairwise_iff_getElem.1 h.apart) i j h1 h2 hij
theorem Short.ix{l:List (Int×Int)}{G:List To}(h:Short l G){g:To}(hg:g∈G):0<=g.2/\g.2<(l.length:Int)/\l[g.2.toNat]?=some g.1:=by
 obtain⟨i,h1,h2⟩:=h.mem g hg;have:=(List.getElem?_eq_some_iff.1 h1).1;rw[h2];exact⟨by omega,by omega,by rw[Int.toNat_natCast];exact h1⟩
theorem Short.same{l:List (Int×Int)}{G:List To}(h:Short l G)(hv:∀x∈l,okR x=true){i j:Nat}{a b:To}(ha:G[i]?=some a)(hb:G[j]?=some b)(e:a.2=b.2):i=j:=by
 have h1:=h.ix (List.mem_of_getElem? ha);have h2:=h.ix (List.mem_of_getElem? hb);rw[<-e]at h2;have ea:a.1=b.1:=Option.some.inj (h1.2.2.symm.trans h2.2.2);have:=ABk.1 (hv _ (List.mem_of_getElem? h1.2.2));rcases Nat.lt_trichotomy i j with hlt|hlt|hlt
 ·have:=h.at hlt ha hb;rw[<-ea]at this;omega
 ·exact hlt
 ·have:=h.at hlt hb ha;rw[<-ea]at this;omega
theorem Short.steps{l:List (Int×Int)}{G:List To}(h:Short l G)(hv:∀x∈l,okR x=true):∃s,Steps l G (AAc (G.map (·.2))) s:=by
 have hp:(AAc (G.map (·.2))).Perm (G.map (·.2)):=ACK;have hnd:(G.map (·.2)).Nodup:=by
  rw[List.nodup_iff_pairwise_ne,List.pairwise_map,List.pairwise_iff_getElem];intro i j hi hj hij e;have:=h.same hv (List.getElem?_eq_getElem hi) (List.getElem?_eq_getElem hj) e;omega
 have hnT:(AAc (G.map (·.2))).Nodup:=hp.nodup_iff.2 hnd;have hlen:(AAc (G.map (·.2))).length=G.length:=by rw[AGx,List.length_map]
 generalize hTe:AAc (G.map (·.2))=T at*
 have hmem:∀i:Nat,∃k:Nat,i<G.length->∃g,G[k]?=some g/\T[i]?=some g.2:=fun i=>by
  by_cases hi:i<G.length
  ·have hm:T[i]'(by omega)∈G.map (·.2):=hp.mem_iff.1 (List.getElem_mem _)
   obtain⟨g,hg,e⟩:=List.mem_map.1 hm;obtain⟨k,hk,ek⟩:=List.mem_iff_getElem.1 hg;exact⟨k,fun _=>⟨g,by rw[List.getElem?_eq_getElem hk,ek],by rw[List.getElem?_eq_getElem (by omega),e]⟩⟩
  ·exact⟨0,fun h=>absurd h hi⟩
 obtain⟨s,hs⟩:=Classical.axiomOfChoice hmem;refine⟨s,hlen,?_,?_,?_,?_,?_⟩
 ·have h2:T.Pairwise (·<=·):=by rw[<-hTe];exact ACe
  exact(h2.and hnT).imp fun{a b} h=>by have:=h.1;have:=h.2;omega
 ·intro v hvT
  obtain⟨g,hg,rfl⟩:=List.mem_map.1 (hp.mem_iff.1 hvT);have:=h.ix hg;exact⟨this.1,this.2.1⟩
 ·intro i hi
  obtain⟨g,h1,h2⟩:=hs i hi;exact⟨(List.getElem?_eq_some_iff.1 h1).1,g,h1,h2,(h.ix (List.mem_of_getElem? h1)).2.2⟩
 ·intro i j hi hj e
  obtain⟨g,h1,h2⟩:=hs i hi;obtain⟨g',h3,h4⟩:=hs j hj;rw[e,h3]at h1;cases h1;exact(List.getElem?_inj (by omega) hnT).1 (h2.trans h4.symm)
 ·intro k hk
  have hm:(G[k]'hk).2∈T:=hp.mem_iff.2 (List.mem_map.2 ⟨_,List.getElem_mem hk,rfl⟩);obtain⟨i,hi,e⟩:=List.mem_iff_getElem.1 hm;obtain⟨g,h1,h2⟩:=hs i (by omega);refine⟨i,by omega,h.same hv h1 (List.getElem?_eq_getElem hk) ?_⟩;rw[List.getElem?_eq_getElem hi,e]at h2;exact(Option.some.inj h2).symm
theorem Short.apartOk{F:Nat}{l:List (Int×Int)}{G:List To}(hF:1000000<F)(hs:yj l=0)(h:Short l G){T:List Int}{s:Nat->Nat}(hS:Steps l G T s):zS F l T=some 0:=by
 have h3:=ABD.1 hs;have:=h.len;refine AM1 hF hs hS.rg hS.up (by rw[hS.len];omega) fun i j hij a b u v h1 h2 h4 h5=>?_;have hi:i<G.length:=by rw[<-hS.len];exact(List.getElem?_eq_some_iff.1 h1).1
 have hj:j<G.length:=by omega
 obtain⟨-,g,e1,e2,e3⟩:=hS.st i hi;obtain⟨-,g',f1,f2,f3⟩:=hS.st j hj;rw[h1]at e2;cases e2;rw[h2]at f2;cases f2;rw[h4]at f3;cases f3;rw[h5]at e3;cases e3;rcases Nat.lt_trichotomy (s i) (s j)with c|c|c
 ·exact .inl (h.at c e1 f1)
 ·have:=hS.inj i j hi hj c;omega
 ·exact .inr (h.at c f1 e1)
end Sg
end Go.Proofs.YtfmelbioccbdoaaGreat
end
section
namespace Go.Proofs.YtfmelbioccbdoaaGreat
open Go Go.Md Go.RowKit
namespace LG
section
abbrev Tn:=Int×Int
def ov(a b:Tn):Bool:=decide (a.1<=b.2)&&decide (b.1<=a.2)
theorem ALq{a b:Tn}:ov a b=ov b a:=by unfold ov;rw[Bool.and_comm]
theorem AKf{a b:Tn}:ov a b=false↔Sg.Dj a b:=by
 unfold ov Sg.Dj;rw[Bool.eq_false_iff];simp;omega
theorem high_l1{F:Nat}{r:Tn}:∀(S:List Sg.To)(s t:List Int)(y:Int),s.length+S.length<=1000->t.length+S.length<=1000->∃z,X9 F r S s t y=some z
 |[],s,t,y,_,_=>⟨_,rfl⟩
 |x::us,s,t,y,h1,h2=>by
  unfold X9;rw[List.length_cons]at h1 h2;by_cases c:x.1.1<=y
  ·rw[if_pos (by simpa using c)]
   exact high_l1 us s t y (by omega) (by omega)
  ·rw[if_neg (by simpa using c)]
   obtain⟨v,hv⟩:∃v,(if((decide (r.1<=x.1.2))&&(decide (x.1.2<=r.2)))=true then some (AX (r.1-1))else some x.1.2:Option Int)=some v:=by split<;>exact⟨_,rfl⟩
   rw[hv];simp only[Dq,AU];rw[ABA (by simp only[List.length_cons,List.length_nil];omega)];simp only[AU];by_cases c2:v<x.1.1
   ·rw[if_pos (by simpa using c2)];exact⟨_,rfl⟩
   ·rw[if_neg (by simpa using c2),ABA (by simp only[List.length_cons,List.length_nil];omega)]
    simp only[AU];exact high_l1 us _ _ _ (by simp only[List.length_append,List.length_cons,List.length_nil];omega) (by simp only[List.length_append,List.length_cons,List.length_nil];omega)
theorem AFH{F:Nat}{r:Tn}{S:List Sg.To}(hl:S.length<=1000):∃z,wQ F ⟨S⟩ r=some z:=by
 unfold wQ;obtain⟨z,e⟩:=high_l1 (F:=F) (r:=r) S [] [] (-1) (by simpa using hl) (by simpa using hl);show∃z,(X9 F r S [] [] (-1))>>=_=some z;rw[e];exact⟨_,rfl⟩
theorem ALr{F:Nat}(hF:1000000<F){l:List Tn}(hs:Sg.yj l=0){i k:Nat}(hi:i<l.length)(hk:k<l.length):∃may must,ABW F l (i:Int) (k:Int)=some ((may,must),0)/\(may=true->ov l[i] l[k]=true):=by
 have h3:=Sg.ABD.1 hs;unfold ABW;rw[Sg.ACs (by omega),hs];simp only[Dq,AU];have c1:((decide ((if(k:Int)<(i:Int)then(k:Int)else(i:Int))<0))||(decide ((l.length:Int)<=(if(i:Int)<(k:Int)then(k:Int)else(i:Int)))))=false:=by
  rw[Bool.or_eq_false_iff,decide_eq_false_iff_not,decide_eq_false_iff_not];constructor<;>split<;>omega
 rw[if_neg (by simp),if_neg (by rw[c1];simp),uT hi,uT hk];simp only[AU,ACM];generalize hr1:(if l[i].1<l[k].1 then l[k].1 else l[i].1)=r1;generalize hr2:(if l[k].2<l[i].2 then l[k].2 else l[i].2)=r2;have e1:r1=max l[i].1 l[k].1:=by rw[<-hr1];split<;>omega
 have e2:r2=min l[i].2 l[k].2:=by rw[<-hr2];split<;>omega
 have oi:=Sg.ABk.1 (h3.2.2 _ (List.getElem_mem hi));have ok:=Sg.ABk.1 (h3.2.2 _ (List.getElem_mem hk));by_cases hm:r2<r1
 ·rw[if_pos (by simpa using hm)]
  exact⟨_,_,rfl,fun h=>by cases h⟩
 ·rw[if_neg (by simpa using hm)]
  obtain⟨S,f1,hp,-⟩:=Sg.ADI hF (l:=l) (by omega) h3.2.2;obtain⟨S3,f2,hp3,-⟩:=Sg.ADI hF (l:=l++[(r1,r2)]) (by simp;omega) (fun x hx=>by
   rcases List.mem_append.1 hx with hx|hx
   ·exact h3.2.2 x hx
   ·rw[List.mem_singleton.1 hx];exact Sg.ABk.2 ⟨by show 0<=r1;omega,by show r1<=r2;omega,by show r2<=10000;omega⟩)
  have hSl:S.length<=1000:=by rw[hp.length_eq,Sg.ADV];omega
  have hSl3:S3.length<=1000:=by rw[hp3.length_eq,Sg.ADV,List.length_append];simp;omega
  rw[f1];simp only[AU];obtain⟨z1,g1⟩:=AFH (F:=F) (r:=(1,0)) hSl;rw[g1];simp only[AU];rw[ABA (by simp only[List.length_cons,List.length_nil];omega)];simp only[AU];rw[f2];simp only[AU];obtain⟨z2,g2⟩:=AFH (F:=F) (r:=(1,0)) hSl3;rw[g2];simp only[AU];obtain⟨z3,g3⟩:=AFH (F:=F) (r:=(r1,r2)) hSl;rw[g3];refine⟨_,_,rfl,fun _=>?_⟩;unfold ov;simp;omega
def AB2(l:List Tn)(i:Nat):Nat->Nat->List yx
 |0,_=>[]
 |m+1,k=>(if ov (l[i]?.getD (0,0)) (l[k]?.getD (0,0))=true then[((i:Int),(k:Int),1)]else[])++AB2 l i m (k+1)
def AEW(l:List Tn):Nat->Nat->List yx
 |0,_=>[]
 |m+1,i=>AB2 l i i 0++AEW l m (i+1)
theorem AGQ{l:List Tn}{i:Nat}{x:yx}:∀(m k:Nat),x∈AB2 l i m k↔∃j:Nat,k<=j/\j<k+m/\ov (l[i]?.getD (0,0)) (l[j]?.getD (0,0))=true/\x=((i:Int),(j:Int),1)
 |0,k=>by simp[AB2];omega
 |m+1,k=>by
  rw[AB2,List.mem_append,AGQ m (k+1)];constructor
  ·rintro(h|⟨j,h1,h2,h3,h4⟩)
   ·split at h
    ·rename_i c
     exact⟨k,Nat.le_refl _,by omega,c,List.mem_singleton.1 h⟩
    ·cases h
   ·exact⟨j,by omega,by omega,h3,h4⟩
  ·rintro⟨j,h1,h2,h3,h4⟩
   by_cases e:j=k
   ·subst e
    rw[if_pos h3];exact .inl (List.mem_singleton.2 h4)
   ·exact .inr ⟨j,by omega,by omega,h3,h4⟩
theorem AJM{l:List Tn}{x:yx}:∀(m i:Nat),x∈AEW l m i↔∃a:Nat,i<=a/\a<i+m/\x∈AB2 l a a 0
 |0,i=>by simp[AEW];omega
 |m+1,i=>by
  rw[AEW,List.mem_append,AJM m (i+1)];constructor
  ·rintro(h|⟨a,h1,h2,h3⟩)
   ·exact⟨i,Nat.le_refl _,by omega,h⟩
   ·exact⟨a,by omega,by omega,h3⟩
  ·rintro⟨a,h1,h2,h3⟩
   by_cases e:a=i
   ·subst e;exact .inl h3
   ·exact .inr ⟨a,by omega,by omega,h3⟩
theorem AJN{l:List Tn}{i:Nat}:∀(m k:Nat),(AB2 l i m k).length<=m
 |0,_=>Nat.le_refl _
 |m+1,k=>by
  have:=AJN (l:=l) (i:=i) m (k+1);rw[AB2,List.length_append];split<;>simp<;>omega
def lks(l:List Tn):List yx:=AEW l l.length 0
theorem AEp{l:List Tn}{x:yx}:x∈lks l↔∃(i k:Nat)(hi:i<l.length)(hk:k<l.length),k<i/\ov l[i] l[k]=true/\x=((i:Int),(k:Int),1):=by
 unfold lks;rw[AJM];constructor
 ·rintro⟨i,-,h1,h2⟩
  obtain⟨k,-,h3,h4,h5⟩:=(AGQ i 0).1 h2;refine⟨i,k,by omega,by omega,by omega,?_,h5⟩;rw[List.getElem?_eq_getElem (show i<l.length by omega),List.getElem?_eq_getElem (show k<l.length by omega)]at h4;exact h4
 ·rintro⟨i,k,hi,hk,h1,h2,h3⟩
  refine⟨i,Nat.zero_le _,by omega,(AGQ i 0).2 ⟨k,Nat.zero_le _,by omega,?_,h3⟩⟩;rw[List.getElem?_eq_getElem hi,List.getElem?_eq_getElem hk];exact h2
theorem ALs{l:List Tn}{i k:Nat}(hi:i<l.length)(hk:k<l.length)(hne:i≠k)(h:ov l[i] l[k]=true):∃w∈xE (lks l) (i:Int),w.2.1=(k:Int):=by
 rcases Nat.lt_or_gt_of_ne hne with c|c
 ·obtain⟨j,hj,e⟩:=List.mem_iff_getElem.1 (AEp.2 ⟨k,i,hk,hi,c,by rw[ALq];exact h,rfl⟩)
  refine⟨_,Ng.AEQ.2 ⟨j,((k:Int),(i:Int),1),by rw[List.getElem?_eq_getElem hj,e],.inr rfl,rfl⟩,?_⟩;simp
 ·obtain⟨j,hj,e⟩:=List.mem_iff_getElem.1 (AEp.2 ⟨i,k,hi,hk,c,h,rfl⟩)
  refine⟨_,Ng.AEQ.2 ⟨j,((i:Int),(k:Int),1),by rw[List.getElem?_eq_getElem hj,e],.inl rfl,rfl⟩,?_⟩;simp;omega
section
variable {F:Nat}{l:List Tn}{x6 x8:Int}
theorem AGR{i:Nat}{nn:Int}(hi:i<l.length)(hl:l.length<=1000):∀(m k:Nat)(L:List yx),k<=i->i-k<m->L.length+(i-k)<=2000000->
  vK F l x6 x8 (i:Int) m (k:Int) (nn,L,[x6],[x8])=some (nn,L++AB2 l i (i-k) k,[x6],[x8])
 |0,k,L,_,h,_=>by omega
 |m+1,k,L,hk,hm,hL=>by
  unfold vK;by_cases hlt:k<i
  ·have hkl:k<l.length:=by omega
   have hw:AX ((k:Int)+1)=((k+1:Nat):Int):=by rw[DJ (by omega)];rfl
   rw[if_pos (by simpa using hlt),uT hi,uT hkl];simp only[Dq,AU];have hb:(if decide (l[i].1<=l[k].2)=true then some (decide (l[k].1<=l[i].2))else some false:Option Bool)=some (ov l[i] l[k]):=by
    unfold ov;cases decide (l[i].1<=l[k].2)<;>rfl
   rw[hb];simp only[AU];have hr:AB2 l i (i-k) k=(if ov l[i] l[k]=true then[((i:Int),(k:Int),1)]else[])++AB2 l i (i-(k+1)) (k+1):=by
    rw[show i-k=(i-(k+1))+1 by omega,AB2,List.getElem?_eq_getElem hi,List.getElem?_eq_getElem hkl]
    rfl
   rw[hr];by_cases c:ov l[i] l[k]=true
   ·rw[if_pos c,if_pos c,ABA (by simp only[List.length_cons,List.length_nil];omega)]
    simp only[AU];rw[hw,AGR hi hl m (k+1) _ (by omega) (by omega) (by simp only[List.length_append,List.length_cons,List.length_nil];omega),List.append_assoc]
   ·rw[if_neg c,if_neg c]
    simp only[AU];rw[hw,AGR hi hl m (k+1) _ (by omega) (by omega) (by omega)]
    rfl
  ·rw[if_neg (by simpa using hlt),show i-k=0 by omega,AB2,List.append_nil]
theorem AJO(hF:1000<F){nn:Int}(hl:l.length<=1000):∀(m i:Nat)(L:List yx),i<=l.length->l.length-i<m->L.length<=i*1000->
  vM F l x6 x8 m (i:Int) (nn,L,[x6],[x8])=some (nn,L++AEW l (l.length-i) i,[x6],[x8])
 |0,i,L,_,h,_=>by omega
 |m+1,i,L,hi,hm,hL=>by
  unfold vM;by_cases hlt:i<l.length
  ·have hw:AX ((i:Int)+1)=((i+1:Nat):Int):=by rw[DJ (by omega)];rfl
   rw[if_pos (by simpa using hlt)];have e:=AGR (F:=F) (x6:=x6) (x8:=x8) (nn:=nn) hlt hl F 0 L (by omega) (by omega) (by omega);simp only[Nat.sub_zero]at e;rw[show vK F l x6 x8 (i:Int) F 0 (nn,L,[x6],[x8])=_ from e];simp only[Dq,AU];have:=AJN (l:=l) (i:=i) i 0;rw[hw,AJO hF hl m (i+1) _ (by omega) (by omega) (by rw[List.length_append];omega),List.append_assoc,show l.length-i=(l.length-(i+1))+1 by omega,AEW]
  ·rw[if_neg (by simpa using hlt),show l.length-i=0 by omega,AEW,List.append_nil]
def part(l:List Tn)(G:List Nat):List Tn:=G.map fun v=>l[v]?.getD (0,0)
theorem AJP{Gs:List (List Nat)}{g:Nat}(hg:g<Gs.length)(hG:∀v∈Gs[g],v<l.length)(hl:l.length<=1000)(hGl:Gs[g].length<=1000):∀(m k:Nat)(P:List Tn),k<=Gs[g].length->Gs[g].length-k<m->P.length+(Gs[g].length-k)<=2000->
  vN F l (Gs.map Ng.toI,0) (g:Int) m P (k:Int)=some (.inr (P++part l (Gs[g].drop k)))
 |0,k,P,_,h,_=>by omega
 |m+1,k,P,hk,hm,hP=>by
  have hix:ix (Gs.map Ng.toI) (g:Int)=some (Ng.toI Gs[g]):=by
   unfold ix;rw[if_pos (by omega),Int.toNat_natCast,List.getElem?_map,List.getElem?_eq_getElem hg]
   rfl
  have hlen:(Ng.toI Gs[g]).length=Gs[g].length:=List.length_map ..;unfold vN;simp only[hix,Dq,AU];by_cases hlt:k<Gs[g].length
  ·have hw:AX ((k:Int)+1)=((k+1:Nat):Int):=by rw[DJ (by omega)];rfl
   have hik:ix (Ng.toI Gs[g]) (k:Int)=some (((Gs[g])[k]:Nat):Int):=by
    unfold ix;rw[if_pos (by omega),Int.toNat_natCast,List.getElem?_map,List.getElem?_eq_getElem hlt]
    rfl
   have hv:=hG _ (List.getElem_mem hlt);rw[if_pos (by rw[hlen];simpa using hlt),hik];simp only[AU];rw[if_neg (by simp)];simp only[AU];rw[if_neg (by simp;omega),uT hv];simp only[AU];rw[ABA (by simp only[List.length_cons,List.length_nil];omega)];simp only[AU];rw[hw,AJP hg hG hl hGl m (k+1) _ (by omega) (by omega) (by simp only[List.length_append,List.length_cons,List.length_nil];omega),List.drop_eq_getElem_cons hlt,List.append_assoc,show part l (Gs[g][k]::Gs[g].drop (k+1))=[(l[Gs[g][k]].1,l[Gs[g][k]].2)]++part l (Gs[g].drop (k+1))from by unfold part;rw[List.map_cons,List.getElem?_eq_getElem hv];rfl]
  ·rw[if_neg (by rw[hlen];simpa using hlt),List.drop_of_length_le (by omega)]
   simp[part]
theorem AGz{G:List Nat}(hs:Sg.yj l=0)(h0:G≠[])(hG:∀v∈G,v<l.length)(hGl:G.length<=24):Sg.yj (part l G)=0:=by
 have h3:=Sg.ABD.1 hs;refine Sg.ABD.2 ⟨?_,by simp[part];omega,fun x hx=>?_⟩
 ·have:=List.length_pos_iff.2 h0
  simp[part];omega
 ·obtain⟨v,hv,rfl⟩:=List.mem_map.1 hx
  rw[List.getElem?_eq_getElem (hG v hv)];exact h3.2.2 _ (List.getElem_mem _)
theorem ALt(hF:1000000<F){Gs:List (List Nat)}{H:List Nat->List Sg.To}(hGs:Gs.length<=1000)(hl:l.length<=1000)(hG:∀G∈Gs,(∀v∈G,v<l.length)/\G.length<=24/\Sg.yj (part l G)=0/\Sg.Short (part l G) (H G)/\zi F (part l G)=some ((H G).map (·.1.2),0)):
  ∀(m k:Nat)(s:Nat),k<=Gs.length->Gs.length-k<m->s<=k*100->vO F l (Gs.map Ng.toI,0) m (s:Int) (k:Int)=some (.inr ((s+((Gs.drop k).map fun G=>(H G).length).sum:Nat):Int))
 |0,k,s,_,h,_=>by omega
 |m+1,k,s,hk,hm,hs=>by
  unfold vO;by_cases hlt:k<Gs.length
  ·obtain⟨g1,g2,g3,g4,g5⟩:=hG _ (List.getElem_mem hlt)
   have hw:AX ((k:Int)+1)=((k+1:Nat):Int):=by rw[DJ (by omega)];rfl
   rw[if_pos (by simpa using hlt)];have e:=AJP (F:=F) (l:=l) hlt g1 hl (by omega) F 0 [] (by omega) (by omega) (by simp;omega);rw[List.drop_zero,List.nil_append]at e;rw[show vN F l (Gs.map Ng.toI,0) (k:Int) F [] 0=some (.inr (part l Gs[k]))from e];simp only[Dq,AU];rw[g5];simp only[AU,gd];have hsc:=g4.scale g3;have hlen:=g4.len;have hpl:(part l Gs[k]).length=Gs[k].length:=List.length_map ..;simp only[decide_true,Bool.not_true,Bool.not_false,cond_true,Sg.AGw hF,hsc,AU,Bool.or_self];rw[if_neg (by simp),show AX ((s:Int)+(((H Gs[k]).map (·.1.2)).length:Int))=((s+(H Gs[k]).length:Nat):Int) by rw[List.length_map,DJ (by omega)];simp,hw];rw[ALt hF hGs hl hG m (k+1) _ (by omega) (by omega) (by omega),List.drop_eq_getElem_cons hlt,List.map_cons,List.sum_cons,Nat.add_assoc]
  ·rw[if_neg (by simpa using hlt),List.drop_of_length_le (by omega)]
   simp
theorem AKg:∀(P:List Tn)(q:List Int),P.Pairwise Sg.Dj->(∀x∈P,∃e∈q,x.1<=e/\e<=x.2)->P.length<=q.length
 |[],_,_,_=>Nat.zero_le _
 |x::P,q,hp,hq=>by
  have hp':=List.pairwise_cons.1 hp;obtain⟨e,he,e1,e2⟩:=hq x List.mem_cons_self;have:=AKg P (q.erase e) hp'.2 fun y hy=>by
   obtain⟨f,hf,f1,f2⟩:=hq y (List.mem_cons_of_mem _ hy);have hne:f≠e:=by
    have:=hp'.1 y hy;unfold Sg.Dj at this;omega
   exact⟨f,(List.mem_erase_of_ne hne).2 hf,f1,f2⟩
  rw[List.length_erase_of_mem he]at this;have:=List.length_pos_of_mem he;rw[List.length_cons];omega
theorem APW{Gs:List (List Nat)}{H:List Nat->List Sg.To}{G0:List Sg.To}(hg:Ng.Grp l.length (lks l) Gs)(hall:∀v,v<l.length->v∈Gs.flatten)(h0:Sg.Short l G0)(hH:∀G∈Gs,Sg.Short (part l G) (H G)):(Gs.map fun G=>(H G).length).sum=G0.length:=by
 have dsym:∀{a b:Sg.To},a.1.2<b.1.1->Sg.Dj a.1 b.1:=fun h=>.inl h;have hat:∀G∈Gs,∀g∈H G,∃(v:Nat)(hv:v<l.length),v∈G/\g.1=l[v]:=fun G hG g hgm=>by
  obtain⟨j,h1,-⟩:=(hH G hG).mem g hgm;have hj:=(List.getElem?_eq_some_iff.1 h1);obtain⟨hj,e⟩:=hj;have hjG:j<G.length:=by have:(part l G).length=G.length:=List.length_map ..;omega
  have hv:=hg.lt _ (List.mem_flatten.2 ⟨G,hG,List.getElem_mem hjG⟩);refine⟨G[j],hv,List.getElem_mem hjG,?_⟩;rw[<-e];simp[part,List.getElem?_eq_getElem hv]
 have e1:(Gs.map fun G=>(H G).length).sum=(Gs.flatMap fun G=>(H G).map (·.1)).length:=by
  rw[List.length_flatMap]
  congr 1
  exact List.map_congr_left fun G _=>(List.length_map ..).symm
 have e2:(Gs.map fun G=>(H G).length).sum=(Gs.flatMap fun G=>(H G).map (·.1.2)).length:=by
  rw[List.length_flatMap]
  congr 1
  exact List.map_congr_left fun G _=>(List.length_map ..).symm
 have hnd:=List.pairwise_flatten.1 (List.nodup_iff_pairwise_ne.1 hg.nd);have a1:(Gs.map fun G=>(H G).length).sum<=(G0.map (·.1.2)).length:=by
  rw[e1];refine AKg _ _ (List.pairwise_flatMap.2 ⟨fun G hG=>?_,?_⟩) fun x hx=>?_
  ·rw[List.pairwise_map]
   exact(hH G hG).apart.imp fun h=>dsym h
  ·refine hnd.2.imp_of_mem fun{G G'} hG hG' hne x hx y hy=>?_
   obtain⟨g,hgm,rfl⟩:=List.mem_map.1 hx;obtain⟨g',hgm',rfl⟩:=List.mem_map.1 hy;obtain⟨v,hv,v1,v2⟩:=hat G hG g hgm;obtain⟨v',hv',v1',v2'⟩:=hat G' hG' g' hgm';rw[v2,v2',<-AKf];refine Bool.eq_false_iff.2 fun hov=>?_;have hvne:=hne v v1 v' v1';obtain⟨w,hw,e⟩:=ALs hv hv' hvne hov;have:=(hg.one G hG).2.2 v v1 w hw;rw[e,Int.toNat_natCast]at this;exact hne v' this v' v1' rfl
  ·obtain⟨G,hG,hx⟩:=List.mem_flatMap.1 hx
   obtain⟨g,hgm,rfl⟩:=List.mem_map.1 hx;obtain⟨v,hv,v1,v2⟩:=hat G hG g hgm;rw[v2];obtain⟨g0,h1,h2,h3⟩:=h0.met l[v] (List.getElem_mem hv);exact⟨_,List.mem_map.2 ⟨g0,h1,rfl⟩,h2,h3⟩
 have a2:(G0.map (·.1)).length<=(Gs.map fun G=>(H G).length).sum:=by
  rw[e2];refine AKg _ _ (by rw[List.pairwise_map];exact h0.apart.imp fun h=>dsym h) fun x hx=>?_;obtain⟨g,hgm,rfl⟩:=List.mem_map.1 hx;obtain⟨i,h1,-⟩:=h0.mem g hgm;obtain⟨hi,e⟩:=List.getElem?_eq_some_iff.1 h1;obtain⟨G,hG,hiG⟩:=List.mem_flatten.1 (hall i hi);obtain⟨g',h2,h3,h4⟩:=(hH G hG).met g.1 (by
   refine List.mem_map.2 ⟨i,hiG,?_⟩;rw[h1];rfl)
  exact⟨_,List.mem_flatMap.2 ⟨G,hG,List.mem_map.2 ⟨g',h2,rfl⟩⟩,h3,h4⟩
 rw[List.length_map]at a1 a2;omega
end
end
end LG
end Go.Proofs.YtfmelbioccbdoaaGreat
end
section
namespace Go.Proofs.YtfmelbioccbdoaaGreat
open Go Go.Md Go.RowKit
section
abbrev RR:=Int×Int×Int
section
variable {F:Nat}{all:List RR}{xR:List Int}
section
variable {x:Int×List RR}
end
end
end
end Go.Proofs.YtfmelbioccbdoaaGreat
end
section
namespace Go.Proofs.YtfmelbioccbdoaaGreat
open Go Go.Md Go.RowKit
open BF (Rl St Back rel pass NEV)
inductive PC(R:List RR)(a:Int):Int->Int->Prop
 |nil:PC R a a 0
 |snoc {u c:Int} {r:RR} (h:PC R a u c) (hr:r∈R) (hu:r.1=u):PC R a r.2.1 (c+r.2.2)
theorem PC.trans{R:List RR}{a b t c d:Int}(h:PC R a b c)(k:PC R b t d):PC R a t (c+d):=by
 induction k with
 |nil=>simpa using h
 |snoc _ hr hu ih=>rw[<-Int.add_assoc];exact .snoc ih hr hu
theorem PC.one{R:List RR}{r:RR}(hr:r∈R):PC R r.1 r.2.1 r.2.2:=by
 have:=PC.snoc (PC.nil (R:=R) (a:=r.1)) hr rfl;simpa using this
theorem AIQ{x:Int×List RR}{t:Int}(t0:1<=t)(t1:t<=x.1):(0,t,100000)∈ACV x/\(t,0,0)∈ACV x:=by
 have h:∀r,r=(0,t,(100000:Int))\/r=(t,0,0)->r∈ACV x:=fun r hr=>by
  refine List.mem_append.2 (.inr (List.mem_flatMap.2 ⟨(t-1).toNat,List.mem_range.2 (by omega),?_⟩));have:(((t-1).toNat:Nat):Int)+1=t:=by omega
  simp only[this,List.mem_cons,List.not_mem_nil,or_false];exact hr
 exact⟨h _ (.inl rfl),h _ (.inr rfl)⟩
theorem PC.any{x:Int×List RR}{a t:Int}(a0:0<=a)(a1:a<=x.1)(t0:0<=t)(t1:t<=x.1):∃c,PC (ACV x) a t c/\c<=100000:=by
 have h1:∃c,PC (ACV x) a 0 c/\c<=0:=by
  by_cases h:a=0
  ·subst h;exact⟨0,.nil,by omega⟩
  ·exact⟨0,PC.one (r:=(a,0,0)) (AIQ (by omega) a1).2,by omega⟩
 obtain⟨c,h2,h3⟩:=h1;by_cases h:t=0
 ·subst h;exact⟨c,h2,by omega⟩
 ·exact⟨c+100000,h2.trans (PC.one (r:=(0,t,100000)) (AIQ (by omega) t1).1),by omega⟩
structure Jv(x:Int×List RR)(a:Int)(s:St):Prop where
 j1:∀v,s.f v=NEV\/PC (ACV x) a v (s.f v)
 j2:∀v q,s.b v=some q->q∈Rs x/\q.2.2.1=v/\s.f q.2.1+q.2.2.2<=s.f v/\s.f q.2.1≠NEV
 j3:∀v c n,Back s.b v v c n->c<0
 j4:∀v,v≠a->s.f v≠NEV->s.b v≠none
 j5:s.f a<=0
 j6:∀v,s.f v<=NEV
theorem Jv.rel{x:Int×List RR}(h:ADU x=0){a:Int}{s:St}{K:Nat}{p:Rl}(hp:p∈Rs x)(hj:Jv x a s):Jv x a (BF.rel K s p):=by
 unfold BF.rel;by_cases hc:BF.cnd s.f p
 ·rw[if_pos hc]
  have hne:=AQi h p hp;obtain⟨c1,c2⟩:=hc;have hpc:PC (ACV x) a p.2.2.1 (s.f p.2.1+p.2.2.2):=by
   rcases hj.j1 p.2.1 with h1|h1
   ·exact(c1 h1).elim
   ·exact .snoc h1 (ALe hp).1 rfl
  have hmono:∀v,BF.up s.f p.2.2.1 (s.f p.2.1+p.2.2.2) v<=s.f v:=fun v=>by
   by_cases hv:v=p.2.2.1
   ·subst hv;rw[BF.wW];omega
   ·rw[BF.xf hv];exact Int.le_refl _
  refine⟨fun v=>?_,fun v q hq=>?_,fun v c n hb=>?_,fun v hv hf=>?_,?_,fun v=>?_⟩
  ·dsimp only
   by_cases hv:v=p.2.2.1
   ·subst hv;rw[BF.wW];exact .inr hpc
   ·rw[BF.xf hv];exact hj.j1 v
  ·dsimp only at hq⊢
   by_cases hv:v=p.2.2.1
   ·subst hv
    rw[BF.wW]at hq;cases hq;rw[BF.wW,BF.xf hne];exact⟨hp,rfl,Int.le_refl _,c1⟩
   ·rw[BF.xf hv]at hq
    obtain⟨h1,h2,h3,h4⟩:=hj.j2 v q hq;rw[BF.xf hv];refine⟨h1,h2,by have:=hmono q.2.1;omega,?_⟩;by_cases hu:q.2.1=p.2.2.1
    ·rw[hu,BF.wW]
     have:=hj.j6 p.2.2.1;omega
    ·rw[BF.xf hu];exact h4
  ·dsimp only at hb
   rcases BF.cyc (fun v q hq=>(hj.j2 v q hq).2.2.1) hne ⟨c1,c2⟩ hb with h1|⟨_,h2,h3⟩
   ·omega
   ·by_cases hv:v=p.2.2.1
    ·exact(h2 hv).elim
    ·exact hj.j3 v c n (h3 hv)
  ·dsimp only at hf⊢
   by_cases hv2:v=p.2.2.1
   ·subst hv2;rw[BF.wW];simp
   ·rw[BF.xf hv2]at hf⊢
    exact hj.j4 v hv hf
  ·have:=hmono a
   have:=hj.j5;dsimp only;omega
  ·have:=hmono v
   have:=hj.j6 v;dsimp only;omega
 ·rw[if_neg hc]
  exact hj
section
section
variable {x:Int×List RR}{a t u:Int}{F:Nat}
end
end
end Go.Proofs.YtfmelbioccbdoaaGreat
end
section
namespace Go.Proofs.YtfmelbioccbdoaaGreat
open Go Go.Md Go.RowKit
abbrev FF:Nat:=100000000000000000
end Go.Proofs.YtfmelbioccbdoaaGreat
end
section
namespace Go.Proofs.YtfmelbioccbdoaaGreat
open Go Go.Md Go.RowKit
namespace LG
section
theorem AOJ:AA1 FF=some true:=rfl
section
variable {F:Nat}{K:List yx}{T:List Int}{nn e0:Int}{u v:List Int}
theorem ANh{i k:Nat}(hi:i<T.length)(hk:k<T.length)(hK:K.length<=1000)(hno:∀x∈K,¬(x.1=T[i]/\x.2.1=T[k])/\¬(x.1=T[k]/\x.2.1=T[i])):∀(m j:Nat),j<=K.length->K.length-j<m->vP F (T,e0) (i:Int) (k:Int) (nn,K,u,v) m (j:Int)=some (.inr ())
 |0,j,_,h=>by omega
 |m+1,j,hj,hm=>by
  unfold vP;by_cases hlt:j<K.length
  ·have hw:AX ((j:Int)+1)=((j+1:Nat):Int):=by rw[DJ (by omega)];rfl
   obtain⟨n1,n2⟩:=hno K[j] (List.getElem_mem hlt);rw[if_pos (by simpa using hlt),uT hlt,uT hi,uT hk];simp only[Dq,AU];have hb:(if decide (K[j].1=T[k])=true then some (decide (K[j].2.1=T[i]))else some false:Option Bool)=some false:=by
    by_cases c:K[j].1=T[k]
    ·rw[if_pos (by simpa using c)]
     congr 1
     exact decide_eq_false fun h=>n2 ⟨c,h⟩
    ·rw[if_neg (by simpa using c)]
   have hc:(if decide (K[j].1=T[i])=true then(if decide (K[j].2.1=T[k])=true then some true else(if decide (K[j].1=T[k])=true then some (decide (K[j].2.1=T[i]))else some false))else(if false=true then some true else(if decide (K[j].1=T[k])=true then some (decide (K[j].2.1=T[i]))else some false)):Option Bool)=some false:=by
    rw[hb];by_cases c:K[j].1=T[i]
    ·rw[if_pos (by simpa using c),if_neg (by simpa using fun h=>n1 ⟨c,h⟩)]
    ·rw[if_neg (by simpa using c),if_neg (by simp)]
   rw[hc];simp only[AU];rw[if_neg (by simp),hw];exact ANh hi hk hK hno m (j+1) (by omega) (by omega)
  ·rw[if_neg (by simpa using hlt)]
theorem ANi(hF:1000000<F){i:Nat}(hi:i<T.length)(hT:T.length<=1000)(hK:K.length<=1000)(hno:∀(k:Nat)(hk:k<T.length),k<i->∀x∈K,¬(x.1=T[i]/\x.2.1=T[k])/\¬(x.1=T[k]/\x.2.1=T[i])):∀(m k:Nat),k<=i->i-k<m->vS F (T,e0) (i:Int) (nn,K,u,v) m (k:Int)=some (.inr ())
 |0,k,_,h=>by omega
 |m+1,k,hk,hm=>by
  unfold vS;by_cases hlt:k<i
  ·have hw:AX ((k:Int)+1)=((k+1:Nat):Int):=by rw[DJ (by omega)];rfl
   rw[if_pos (by simpa using hlt),show vP F (T,e0) (i:Int) (k:Int) (nn,K,u,v) F 0=some (.inr ())from ANh hi (by omega) hK (hno k (by omega) hlt) F 0 (by omega) (by omega)];simp only[Dq,AU];rw[hw];exact ANi hF hi hT hK hno m (k+1) (by omega) (by omega)
  ·rw[if_neg (by simpa using hlt)]
theorem ANj(hF:1000000<F)(hT:T.length<=1000)(hK:K.length<=1000)(hno:∀(i k:Nat)(hi:i<T.length)(hk:k<T.length),k<i->∀x∈K,¬(x.1=T[i]/\x.2.1=T[k])/\¬(x.1=T[k]/\x.2.1=T[i])):∀(m i:Nat),i<=T.length->T.length-i<m->vT F (T,e0) (nn,K,u,v) m (i:Int)=some (.inr ())
 |0,i,_,h=>by omega
 |m+1,i,hi,hm=>by
  unfold vT;by_cases hlt:i<T.length
  ·have hw:AX ((i:Int)+1)=((i+1:Nat):Int):=by rw[DJ (by omega)];rfl
   rw[if_pos (by simpa using hlt),show vS F (T,e0) (i:Int) (nn,K,u,v) F 0=some (.inr ())from ANi hF hlt hT hK (fun k hk h=>hno i k hlt hk h) F 0 (by omega) (by omega)];simp only[Dq,AU];rw[hw];exact ANj hF hT hK hno m (i+1) (by omega) (by omega)
  ·rw[if_neg (by simpa using hlt)]
end
theorem AM2{l:List Tn}{G:List Sg.To}{T:List Int}{s:Nat->Nat}(h:Sg.Short l G)(hS:Sg.Steps l G T s)(i k:Nat)(hi:i<T.length)(hk:k<T.length)(hki:k<i):∀x∈lks l,¬(x.1=T[i]/\x.2.1=T[k])/\¬(x.1=T[k]/\x.2.1=T[i]):=by
 have hl:=hS.len;obtain⟨-,g,e1,e2,e3⟩:=hS.st i (by omega);obtain⟨-,g',f1,f2,f3⟩:=hS.st k (by omega);have hne:s i≠s k:=fun e=>by have:=hS.inj i k (by omega) (by omega) e;omega
 have hdj:Sg.Dj g.1 g'.1:=by
  rcases Nat.lt_or_gt_of_ne hne with c|c
  ·exact .inl (h.at c e1 f1)
  ·exact .inr (h.at c f1 e1)
 rw[List.getElem?_eq_getElem hi]at e2;rw[List.getElem?_eq_getElem hk]at f2;have e2:=Option.some.inj e2;have f2:=Option.some.inj f2;intro x hx;obtain⟨a,b,ha,hb,hab,hov,rfl⟩:=AEp.1 hx;constructor
 ·rintro⟨h1,h2⟩
  have h1:(a:Int)=T[i]:=h1;have h2:(b:Int)=T[k]:=h2;rw[<-e2,<-h1,Int.toNat_natCast,List.getElem?_eq_getElem ha]at e3;rw[<-f2,<-h2,Int.toNat_natCast,List.getElem?_eq_getElem hb]at f3;rw[Option.some.inj e3,Option.some.inj f3,AKf.2 hdj]at hov;cases hov
 ·rintro⟨h1,h2⟩
  have h1:(a:Int)=T[k]:=h1;have h2:(b:Int)=T[i]:=h2;rw[<-f2,<-h1,Int.toNat_natCast,List.getElem?_eq_getElem ha]at f3;rw[<-e2,<-h2,Int.toNat_natCast,List.getElem?_eq_getElem hb]at e3;rw[Option.some.inj e3,Option.some.inj f3,ALq,AKf.2 hdj]at hov;cases hov
theorem AGS{p n:Nat}(hn:0<n)(hp:p<1000000):rem (AX (p:Int)) (n:Int)=some ((p % n:Nat):Int):=by
 rw[DJ (by omega)];unfold rem;rw[if_neg (by omega),Int.tmod_eq_emod_of_nonneg (by omega)]
 rfl
theorem AR6:1000000<FF:=by decide
theorem AOK(l:List Tn){p q:Nat}(hp:p<256)(hq:q<256):zI FF l (p:Int) (q:Int)=some true:=by
 have hF:=AR6;unfold zI;rw[AOJ];by_cases h30:30<l.length
 ·have c1:decide (30<(l.length:Int))=true:=decide_eq_true (by omega)
  simp only[c1,gd,Bool.not_true,cond_false,Dq,AU,Bool.true_or,if_true]
 have c1:decide (30<(l.length:Int))=false:=by simp;omega
 simp only[c1,gd,Bool.not_false,cond_true,Sg.ACG (F:=FF) (by omega),Dq,AU,Bool.false_or];by_cases hs:Sg.yj l=0
 case neg=>
  rw[if_pos (by simp[hs])]
 have h3:=Sg.ABD.1 hs;by_cases h2:l.length<2
 ·rw[if_pos (by simp;omega)]
 have c2:((!decide (Sg.yj l=0))||(decide ((l.length:Int)<2)))=false:=by
  rw[hs];simp;omega
 rw[if_neg (by rw[c2];simp)];have hn:=h3.2.1;rw[AGS (by omega) (by omega)];simp only[AU];rw[show AX ((l.length:Int)-1)=((l.length-1:Nat):Int) by rw[DJ (by omega)];omega,AGS (by omega) (by omega)];simp only[AU];have hp1:p % l.length<l.length:=Nat.mod_lt _ (by omega);have hq1:q % (l.length-1)<l.length-1:=Nat.mod_lt _ (by omega);generalize p % l.length=a at hp1;generalize q % (l.length-1)=d at hq1;rw[show AX (AX ((a:Int)+1)+(d:Int))=AX ((a+1+d:Nat):Int) by rw[DJ (n:=(a:Int)+1) (by omega)];rfl,AGS (by omega) (by omega)];simp only[AU];have hb:(a+1+d) % l.length<l.length/\(a+1+d) % l.length≠a:=by
  refine⟨Nat.mod_lt _ (by omega),fun e=>?_⟩;by_cases c:a+1+d<l.length
  ·rw[Nat.mod_eq_of_lt c]at e;omega
  ·rw[Nat.mod_eq_sub_mod (by omega),Nat.mod_eq_of_lt (by omega)]at e;omega
 generalize(a+1+d) % l.length=b at hb;obtain⟨hbl,hba⟩:=hb;have e1:=AJO (F:=FF) (l:=l) (x6:=(a:Int)) (x8:=(b:Int)) (nn:=(l.length:Int)) (by omega) (by omega) FF 0 [] (by omega) (by omega) (by simp);rw[Nat.sub_zero,List.nil_append]at e1;rw[show vM FF l (a:Int) (b:Int) FF 0 ((l.length:Int),[],[(a:Int)],[(b:Int)])=some ((l.length:Int),lks l,[(a:Int)],[(b:Int)])from e1];simp only[AU];by_cases h120:120<(lks l).length
 ·rw[if_pos (by simp;omega)]
 rw[if_neg (by simp;omega)];have hV:Ng.VN ((l.length:Int),lks l,[(a:Int)],[(b:Int)]) l.length:=by
  refine⟨rfl,by omega,by show(lks l).length<=120;omega,by simp,by simp,fun y hy=>?_,by simp,fun v hv=>?_,by simp,fun v hv=>?_,fun v hv hv2=>?_⟩
  ·obtain⟨i,k,hi,hk,hki,-,rfl⟩:=AEp.1 hy
   refine⟨?_,?_,?_,?_,?_,?_,?_⟩<;>dsimp only<;>omega
  ·rw[List.mem_singleton.1 hv];omega
  ·rw[List.mem_singleton.1 hv];omega
  ·have:=List.mem_singleton.1 hv
   have:=List.mem_singleton.1 hv2;omega
 obtain⟨G0,hsh,f1,T,f2,f3⟩:=Sg.AGy hF hs (by show l.length<=24;omega);obtain⟨Gs,g1,g2,g3⟩:=Ng.AIp hF hV;obtain⟨may,must,s1,s2⟩:=ALr hF hs hp1 hbl;obtain⟨cc,ee,c1',c2',c3'⟩:=Ng.AKY hF hV;obtain⟨s,hS⟩:=hsh.steps h3.2.2;rw[<-f3]at hS;rw[f1];simp only[AU];rw[g1];simp only[AU];rw[s1];simp only[AU];rw[c1'];simp only[AU];rw[f2];simp only[AU];have hee:((!decide (ee=0))&&(!decide (ee=5)))=false:=by
  rcases c2' with rfl|rfl<;>rfl
 have hme:(may&&(!decide (ee=0)))=false:=by
  cases hm:may with
  |false=>rfl
  |true=>
   obtain⟨w,hw,hw2⟩:=ALs hp1 hbl (Ne.symm hba) (s2 hm);have:ee=0:=c3' ⟨(a:Int),by simp,w,hw,by rw[hw2];simp⟩;rw[this];rfl
 have hlenT:T.length=G0.length:=hS.len;have hG0l:=hsh.len;simp only[decide_true,Bool.not_true,Bool.or_self,hee,Bool.not_false,cond_true,Sg.AGw hF,hsh.scale hs,AU,hme,hsh.apartOk hF hs hS,Bool.false_or];rw[if_neg (by rw[List.length_map];simp;omega)];have hmem:∀G:List Nat,∃H:List Sg.To,G∈Gs->Sg.Short (part l G) H/\zi FF (part l G)=some (H.map (·.1.2),0):=fun G=>by
  by_cases hG:G∈Gs
  ·have hlt:∀v∈G,v<l.length:=fun v hv=>g2.lt v (List.mem_flatten.2 ⟨G,hG,hv⟩)
   have hGl:G.length<=24:=by
    have:=Ng.AEn (k:=List.range l.length) (by rw[List.nodup_iff_pairwise_ne];exact(g2.one G hG).2.1.imp fun h e=>by omega) fun v hv=>List.mem_range.2 (hlt v hv);rw[List.length_range]at this;omega
   have hps:=AGz hs (g2.one G hG).1 hlt hGl;obtain⟨H,k1,k2,-⟩:=Sg.AGy hF hps (by show(part l G).length<=24;rw[show(part l G).length=G.length from List.length_map ..];exact hGl);exact⟨H,fun _=>⟨k1,k2⟩⟩
  ·exact⟨[],fun h=>absurd h hG⟩
 obtain⟨H,hH⟩:=Classical.axiomOfChoice hmem;have hGsl:Gs.length<=1000:=by
  have h1:=Ng.AFD Gs fun G hG=>(g2.one G hG).1;have h2:=Ng.AEn (k:=List.range l.length) g2.nd fun v hv=>List.mem_range.2 (g2.lt v hv);rw[List.length_range]at h2;omega
 have e3:=ALt (F:=FF) (l:=l) (H:=H) hF hGsl (by omega) (fun G hG=>by
  have hlt:∀v∈G,v<l.length:=fun v hv=>g2.lt v (List.mem_flatten.2 ⟨G,hG,hv⟩);have hGl:G.length<=24:=by
   have:=Ng.AEn (k:=List.range l.length) (by rw[List.nodup_iff_pairwise_ne];exact(g2.one G hG).2.1.imp fun h e=>by omega) fun v hv=>List.mem_range.2 (hlt v hv);rw[List.length_range]at this;omega
  exact⟨hlt,hGl,AGz hs (g2.one G hG).1 hlt hGl,(hH G hG).1,(hH G hG).2⟩) FF 0 0 (by omega) (by omega) (by omega)
 rw[List.drop_zero,Nat.zero_add,APW g2 g3 hsh fun G hG=>(hH G hG).1]at e3;rw[show vO FF l (Gs.map Ng.toI,0) FF 0 0=some (.inr (G0.length:Int))from e3];simp only[AU];rw[show vT FF (T,0) ((l.length:Int),lks l,[(a:Int)],[(b:Int)]) FF 0=some (.inr ())from ANj hF (by omega) (by omega) (fun i k hi hk h=>AM2 hsh hS i k hi hk h) FF 0 (by omega) (by omega)];simp only[AU,List.length_map,decide_true,cond_true,Bool.and_self]
theorem ADt(l:List Tn){one two:Int}(h1:(Lit.int .u8 one).wf=true)(h2:(Lit.int .u8 two).wf=true):zI FF l one two=some true:=by
 have hb:∀{v:Int},(Lit.int .u8 v).wf=true->0<=v/\v<=255:=fun{v} h=>by simp[Lit.wf]at h;exact h
 have b1:=hb h1;have b2:=hb h2;have:=AOK l (p:=one.toNat) (q:=two.toNat) (by omega) (by omega);rwa [Int.toNat_of_nonneg b1.1,Int.toNat_of_nonneg b2.1]at this
end
end LG
end Go.Proofs.YtfmelbioccbdoaaGreat
end
section
namespace Go.Proofs.YtfmelbioccbdoaaGreat
namespace TopGroupedTonesP
open Go
theorem band{a b:Bool}(h:a=true)(k:b=true):(a&&b)=true:=by rw[h,k];rfl
theorem jf0:(Rows.topGroupedTonesRow.wf (OpenSpec.ofChange Rows.topGroupedTonesSpec))=true:=by kernel_rfl
theorem jf1:(laidOutB Tryz.pinned.checked.prog)=true:=by kernel_rfl
theorem jf2:(mapsRowed Tryz.pinned.checked.prog)=true:=by kernel_rfl
theorem jf3:(Tryz.f13.params.all (Tryz.pinned.checked.prog.readableRec ·))=true:=by kernel_rfl
theorem jf4:(namedTie Tryz.pinned.checked.prog Rows.topGroupedTonesRow.named Rows.topGroupedTonesSpec.vars)=true:=by kernel_rfl
theorem jf5:((Rows.topGroupedTonesRow.stops==[]))=true:=by kernel_rfl
theorem jf6:((Tryz.pinned.checked.prog.stops==[]))=true:=by kernel_rfl
theorem jf7:((Rows.topGroupedTonesRow.knobs==[]))=true:=by kernel_rfl
theorem jf8:((Tryz.pinned.checked.prog.stopKnobs==[]))=true:=by kernel_rfl
theorem jf9:((Rows.topGroupedTonesRow.inPlace==Tryz.pinned.checked.prog.inPlace (13:FuncId)))=true:=by kernel_rfl
theorem AR7:((Rows.topGroupedTonesRow.unfollowed==Tryz.pinned.checked.prog.unfollowed (13:FuncId)))=true:=by kernel_rfl
theorem AR8:((Rows.topGroupedTonesRow.recurses==Tryz.pinned.checked.prog.recurses (13:FuncId)))=true:=by kernel_rfl
theorem AR9:((Rows.topGroupedTonesRow.named==Tryz.pinned.checked.prog.varsNamed (13:FuncId)))=true:=by kernel_rfl
theorem ASA:((Rows.topGroupedTonesRow.maps==(Tryz.f13.params.toList++Rows.topGroupedTonesSpec.plain.varTypes Tryz.pinned.checked.prog).any (Tryz.pinned.checked.prog.mapsRec ·)))=true:=by kernel_rfl
theorem ASB:((Rows.topGroupedTonesRow.ifaces==(Tryz.f13.params.toList++Rows.topGroupedTonesSpec.plain.varTypes Tryz.pinned.checked.prog).any (Tryz.pinned.checked.prog.ifacesRec ·)))=true:=by kernel_rfl
theorem ASC:((Rows.topGroupedTonesRow.mapsOut==Tryz.pinned.checked.prog.mapsAmong Tryz.f13.resultTypes.toList))=true:=by kernel_rfl
theorem ASD:((Rows.topGroupedTonesRow.loops==(Tryz.f13.params.toList++Rows.topGroupedTonesSpec.plain.varTypes Tryz.pinned.checked.prog).any (Tryz.pinned.checked.prog.loopsFrom ·)))=true:=by kernel_rfl
theorem ASE:((Rows.topGroupedTonesRow.wideKeys==(Tryz.f13.params.toList++Rows.topGroupedTonesSpec.plain.varTypes Tryz.pinned.checked.prog++Tryz.f13.resultTypes.toList).any (Tryz.pinned.checked.prog.wideKeysFrom ·)))=true:=by kernel_rfl
theorem ASF:(Rows.topGroupedTonesSpec.vars.all (Tryz.pinned.checked.prog.varReadable ·))=true:=by kernel_rfl
theorem ASG:(Tryz.f13.resultTypes.all (fun t=>Tryz.pinned.checked.prog.readableRec t&&decide (t<Tryz.pinned.checked.prog.types.size)))=true:=by kernel_rfl
theorem ASH:((Rows.topGroupedTonesRow.ifacesOut==Tryz.f13.resultTypes.toList.any (Tryz.pinned.checked.prog.ifacesRec ·)))=true:=by kernel_rfl
theorem ASI:((Rows.topGroupedTonesRow.loopsOut==Tryz.f13.resultTypes.toList.any (Tryz.pinned.checked.prog.loopsFrom ·)))=true:=by kernel_rfl
theorem ASJ:((Rows.topGroupedTonesRow.plainKeys==Tryz.pinned.checked.prog.plainKeys))=true:=by kernel_rfl
theorem ASL:(Rows.topGroupedTonesRow.shortTexts.isNone)=true:=by kernel_rfl
theorem ASM:(Tryz.pinned.checked.prog.stopsHeard)=true:=by kernel_rfl
theorem ASN:(Tryz.pinned.checked.prog.mayEnter)=true:=by kernel_rfl
theorem ASO:((Rows.topGroupedTonesRow.lifted==Tryz.pinned.checked.prog.liftsFinal))=true:=by kernel_rfl
theorem ASP:((Tryz.pinned.checked.prog.make==some Rows.topGroupedTonesRow.make))=true:=by kernel_rfl
theorem ASQ:((Rows.topGroupedTonesRow.kinds==(if Rows.topGroupedTonesRow.domain.isEmpty then[]else Tryz.f13.params.toList.map fun t=>match Tryz.pinned.checked.prog.underlying t with|some (.int k)=>some k|_=>none)))=true:=by kernel_rfl
theorem ASR:((Rows.topGroupedTonesRow.pinned==Rows.topGroupedTonesRow.pinnedBy))=true:=by kernel_rfl
theorem ASS:((Rows.topGroupedTonesRow.veiled==(Tryz.f13.params.toList++Rows.topGroupedTonesSpec.plain.varTypes Tryz.pinned.checked.prog++Tryz.f13.resultTypes.toList).any (Tryz.pinned.checked.prog.veiledRec ·)))=true:=by kernel_rfl
theorem ASU:(Rows.topGroupedTonesRow.veiledFits Tryz.pinned.checked.prog Tryz.f13.params.toList (Tryz.f13.params.toList++Rows.topGroupedTonesSpec.plain.varTypes Tryz.pinned.checked.prog++Tryz.f13.resultTypes.toList))=true:=by kernel_rfl
theorem named:Tryz.pinned.checked.prog.funcNamed Rows.topGroupedTonesRow.func=some 13:=by kernel_rfl
end TopGroupedTonesP
end Go.Proofs.YtfmelbioccbdoaaGreat
end
